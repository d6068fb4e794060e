/- A segment: its code: what the code answers, as lemmas for every input that their premises allow; a part of the proof of TopRowed. -/
import Derived.Test.YtaddjpngjhkkmaaW13
namespace Go.Proofs.Ytaddjpngjhkkmaa
open Go.RowKit
attribute [local go_sem ↓] Go.wp_at_zero Go.wp_at_succ
attribute [local go_sem ↓] add_short
set_option maxRecDepth 100000 in
set_option maxHeartbeats 4000000 in
theorem segged_any (tx st num fi la pg sl : Nat) (w : World) (htx : tx < 18446744073709551616) (hst : st < 256) (hnum : num < 18446744073709551616) (hfi : fi < 4294967296) (hla : la < 4294967296) (hpg : pg < 4294967296) (hsl : sl < 65536) :
    Calls Try.prog 19 #[.agg #[.int .u64 tx, .int .u8 st, .int .u64 num, .int .u32 fi, .int .u32 la, .int .u32 pg, .int .u16 sl]] w fun e w' => e = .returned (.string ⟨(Pm.be tx 8 ++ Pm.be st 1 ++ Pm.be num 8 ++ Pm.be fi 4 ++ Pm.be la 4 ++ Pm.be pg 4 ++ Pm.be sl 2).toArray⟩) ∧ Below w.heap.size w w' := by
  have hw1 : IntKind.u64.wrap (st : Int) = st := IntWalk.u64_in _ (by omega)
  have hw2 : IntKind.u64.wrap (fi : Int) = fi := IntWalk.u64_in _ (by omega)
  have hw3 : IntKind.u64.wrap (la : Int) = la := IntWalk.u64_in _ (by omega)
  have hw4 : IntKind.u64.wrap (pg : Int) = pg := IntWalk.u64_in _ (by omega)
  have hw5 : IntKind.u64.wrap (sl : Int) = sl := IntWalk.u64_in _ (by omega)
  have HT := Lib.hid htx
  have HN := Lib.hid hnum
  clear htx hnum
  go_enter Try.func19, Try.ntmps19
  go_wp2
  have K1 := Lib.hid (fun W => high_8 tx W)
  have K2 := Lib.hid (fun W => high_1 st W)
  have K3 := Lib.hid (fun W => high_8 num W)
  have K4 := Lib.hid (fun W => high_4 fi W)
  have K5 := Lib.hid (fun W => high_4 la W)
  have K6 := Lib.hid (fun W => pointed_any pg sl W hpg hsl)
  have T1 : True := trivial
  have T3 : True := trivial
  have T4 : True := trivial
  have T5 : True := trivial
  go_region_held3 (fun w' => w'.cell? ⟨w.heap.size, 0, none⟩ = some (.int .u64 tx) ∧ w'.cell? ⟨w.heap.size, 1, none⟩ = some (.int .u8 st) ∧ w'.cell? ⟨w.heap.size, 2, none⟩ = some (.int .u64 num) ∧ w'.cell? ⟨w.heap.size, 3, none⟩ = some (.int .u32 fi) ∧ w'.cell? ⟨w.heap.size, 4, none⟩ = some (.int .u32 la) ∧ w'.cell? ⟨w.heap.size, 5, none⟩ = some (.int .u32 pg) ∧ w'.cell? ⟨w.heap.size, 6, none⟩ = some (.int .u16 sl)) (go_keep)
      (first
       | (go_at_call_of 25 (Value.int .i64 1); ((with_reducible refine (K2.out _).mono ?_); rintro e w2 ⟨rfl, hb2⟩; obtain ⟨hc2, _, hz2⟩ := bblk hb2 w.heap.size hz1))
       | (go_at_call_of 25 (Value.int .i64 8); have _t := T1; ((with_reducible refine (K1.out _).mono ?_); rintro e w1 ⟨rfl, hb1⟩; obtain ⟨hc1, _, hz1⟩ := bblk hb1 w.heap.size (by simp); clear T1))
       | (go_at_call_of 25 (Value.int .i64 8); have _t := T3; ((with_reducible refine (K3.out _).mono ?_); rintro e w3 ⟨rfl, hb3⟩; obtain ⟨hc3, _, hz3⟩ := bblk hb3 w.heap.size hz2; clear T3))
       | (go_at_call_of 25 (Value.int .i64 4); have _t := T4; ((with_reducible refine (K4.out _).mono ?_); rintro e w4 ⟨rfl, hb4⟩; obtain ⟨hc4, _, hz4⟩ := bblk hb4 w.heap.size hz3; clear T4))
       | (go_at_call_of 25 (Value.int .i64 4); have _t := T5; ((with_reducible refine (K5.out _).mono ?_); rintro e w5 ⟨rfl, hb5⟩; obtain ⟨hc5, _, hz5⟩ := bblk hb5 w.heap.size hz4; clear T5))
       | (go_at_call 26; ((with_reducible refine (K6.out _).mono ?_); rintro e w6 ⟨rfl, hb6⟩; obtain ⟨hc6, _, hz6⟩ := bblk hb6 w.heap.size hz5)))
  all_goals go_wp2
  go_ret
  exact ⟨by simp, bt (bt (bt (bt (bt (bt (bd (ba (Below.refl _ _) _)) hb1) hb2) hb3) hb4) hb5) hb6⟩
set_option maxRecDepth 100000 in
set_option maxHeartbeats 4000000 in
theorem seg_encode (tx st num fi la pg sl : Nat) (w : World) (htx : tx < 18446744073709551616) (hst : st < 256) (hnum : num < 18446744073709551616) (hfi : fi < 4294967296) (hla : la < 4294967296) (hpg : pg < 4294967296) (hsl : sl < 65536) (hM : ∀ W : World, Calls Try.prog 39 #[.agg #[.int .u64 tx, .int .u8 st, .int .u64 num, .int .u32 fi, .int .u32 la, .int .u32 pg, .int .u16 sl]] W fun e w' => e = .returned (.bool true) ∧ Below W.heap.size W w') :
    Calls Try.prog 17 #[.agg #[.int .u64 tx, .int .u8 st, .int .u64 num, .int .u32 fi, .int .u32 la, .int .u32 pg, .int .u16 sl]] w fun e w' => e = .returned (.tuple #[.string ⟨(Pm.be tx 8 ++ Pm.be st 1 ++ Pm.be num 8 ++ Pm.be fi 4 ++ Pm.be la 4 ++ Pm.be pg 4 ++ Pm.be sl 2).toArray⟩, .int .i64 0]) ∧ Below w.heap.size w w' := by
  have hw1 : IntKind.u64.wrap (st : Int) = st := IntWalk.u64_in _ (by omega)
  have hw2 : IntKind.u64.wrap (fi : Int) = fi := IntWalk.u64_in _ (by omega)
  have hw3 : IntKind.u64.wrap (la : Int) = la := IntWalk.u64_in _ (by omega)
  have hw4 : IntKind.u64.wrap (pg : Int) = pg := IntWalk.u64_in _ (by omega)
  have hw5 : IntKind.u64.wrap (sl : Int) = sl := IntWalk.u64_in _ (by omega)
  have HT := Lib.hid htx
  have HN := Lib.hid hnum
  clear htx hnum
  have HM := Lib.hid hM
  clear hM
  have hX0 := (Blk.new w 56 #[.int .u64 tx, .int .u8 st, .int .u64 num, .int .u32 fi, .int .u32 la, .int .u32 pg, .int .u16 sl]).alloc (.cells #[.string ⟨#[]⟩] 9)
  have hO0 : Blk ((w.alloc (.cells #[.int .u64 tx, .int .u8 st, .int .u64 num, .int .u32 fi, .int .u32 la, .int .u32 pg, .int .u16 sl] 56)).alloc (.cells #[.string ⟨#[]⟩] 9)) (w.heap.size + 1) 9 #[.string ⟨([] : List UInt8).toArray⟩] := by
    have h := Blk.new (w.alloc (.cells #[.int .u64 tx, .int .u8 st, .int .u64 num, .int .u32 fi, .int .u32 la, .int .u32 pg, .int .u16 sl] 56)) 9 #[.string ⟨#[]⟩]
    simpa using h
  have hb0 : Below w.heap.size w ((w.alloc (.cells #[.int .u64 tx, .int .u8 st, .int .u64 num, .int .u32 fi, .int .u32 la, .int .u32 pg, .int .u16 sl] 56)).alloc (.cells #[.string ⟨#[]⟩] 9)) := ba (ba (Below.refl _ _) _) _
  go_enter Try.func17, Try.ntmps17
  go_wp2_with fail
  refine (HM.out _).mono ?_
  rintro e w1 ⟨rfl, hL1⟩
  have hX1 := hX0.after hL1
  have hO1 := hO0.after hL1
  have hb1 := bt hb0 hL1
  clear hX0 hO0 hb0 hL1 HM
  have cx1 := hX1.cell
  go_wp2_with fail
  refine (put40 tx 8 (w.heap.size + 1) ([] : List UInt8) _ (by simp [Pm.be_length]) (by omega) (by omega) (by have := HT.out; have := HN.out; omega) hO1).mono ?_
  rintro e w2 ⟨rfl, hO2', hL2⟩
  have hO2 : Blk w2 (w.heap.size + 1) 9 #[.string ⟨((Pm.be tx 8)).toArray⟩] := hO2'
  have hX2 := hX1.grown hL2 (by simp)
  have hb2 := bo hb1 hL2 (by omega)
  clear hO1 hX1 hb1 hL2 hO2'
  have cx2 := hX2.cell
  go_wp2_with fail
  refine (put40 st 1 (w.heap.size + 1) (Pm.be tx 8) _ (by simp [Pm.be_length]) (by omega) (by omega) (by have := HT.out; have := HN.out; omega) hO2).mono ?_
  rintro e w3 ⟨rfl, hO3', hL3⟩
  have hO3 : Blk w3 (w.heap.size + 1) 9 #[.string ⟨(((Pm.be tx 8) ++ Pm.be st 1)).toArray⟩] := hO3'
  have hX3 := hX2.grown hL3 (by simp)
  have hb3 := bo hb2 hL3 (by omega)
  clear hO2 hX2 hb2 hL3 hO3'
  have cx3 := hX3.cell
  go_wp2_with fail
  refine (put40 num 8 (w.heap.size + 1) ((Pm.be tx 8) ++ Pm.be st 1) _ (by simp [Pm.be_length]) (by omega) (by omega) (by have := HT.out; have := HN.out; omega) hO3).mono ?_
  rintro e w4 ⟨rfl, hO4', hL4⟩
  have hO4 : Blk w4 (w.heap.size + 1) 9 #[.string ⟨((((Pm.be tx 8) ++ Pm.be st 1) ++ Pm.be num 8)).toArray⟩] := hO4'
  have hX4 := hX3.grown hL4 (by simp)
  have hb4 := bo hb3 hL4 (by omega)
  clear hO3 hX3 hb3 hL4 hO4'
  have cx4 := hX4.cell
  go_wp2_with fail
  refine (put40 fi 4 (w.heap.size + 1) (((Pm.be tx 8) ++ Pm.be st 1) ++ Pm.be num 8) _ (by simp [Pm.be_length]) (by omega) (by omega) (by have := HT.out; have := HN.out; omega) hO4).mono ?_
  rintro e w5 ⟨rfl, hO5', hL5⟩
  have hO5 : Blk w5 (w.heap.size + 1) 9 #[.string ⟨(((((Pm.be tx 8) ++ Pm.be st 1) ++ Pm.be num 8) ++ Pm.be fi 4)).toArray⟩] := hO5'
  have hX5 := hX4.grown hL5 (by simp)
  have hb5 := bo hb4 hL5 (by omega)
  clear hO4 hX4 hb4 hL5 hO5'
  have cx5 := hX5.cell
  go_wp2_with fail
  refine (put40 la 4 (w.heap.size + 1) ((((Pm.be tx 8) ++ Pm.be st 1) ++ Pm.be num 8) ++ Pm.be fi 4) _ (by simp [Pm.be_length]) (by omega) (by omega) (by have := HT.out; have := HN.out; omega) hO5).mono ?_
  rintro e w6 ⟨rfl, hO6', hL6⟩
  have hO6 : Blk w6 (w.heap.size + 1) 9 #[.string ⟨((((((Pm.be tx 8) ++ Pm.be st 1) ++ Pm.be num 8) ++ Pm.be fi 4) ++ Pm.be la 4)).toArray⟩] := hO6'
  have hX6 := hX5.grown hL6 (by simp)
  have hb6 := bo hb5 hL6 (by omega)
  clear hO5 hX5 hb5 hL6 hO6'
  have cx6 := hX6.cell
  go_wp2_with fail
  refine (put40 pg 4 (w.heap.size + 1) (((((Pm.be tx 8) ++ Pm.be st 1) ++ Pm.be num 8) ++ Pm.be fi 4) ++ Pm.be la 4) _ (by simp [Pm.be_length]) (by omega) (by omega) (by have := HT.out; have := HN.out; omega) hO6).mono ?_
  rintro e w7 ⟨rfl, hO7', hL7⟩
  have hO7 : Blk w7 (w.heap.size + 1) 9 #[.string ⟨(((((((Pm.be tx 8) ++ Pm.be st 1) ++ Pm.be num 8) ++ Pm.be fi 4) ++ Pm.be la 4) ++ Pm.be pg 4)).toArray⟩] := hO7'
  have hX7 := hX6.grown hL7 (by simp)
  have hb7 := bo hb6 hL7 (by omega)
  clear hO6 hX6 hb6 hL7 hO7'
  have cx7 := hX7.cell
  go_wp2_with fail
  refine (put40 sl 2 (w.heap.size + 1) ((((((Pm.be tx 8) ++ Pm.be st 1) ++ Pm.be num 8) ++ Pm.be fi 4) ++ Pm.be la 4) ++ Pm.be pg 4) _ (by simp [Pm.be_length]) (by omega) (by omega) (by have := HT.out; have := HN.out; omega) hO7).mono ?_
  rintro e w8 ⟨rfl, hO8', hL8⟩
  have hO8 : Blk w8 (w.heap.size + 1) 9 #[.string ⟨((((((((Pm.be tx 8) ++ Pm.be st 1) ++ Pm.be num 8) ++ Pm.be fi 4) ++ Pm.be la 4) ++ Pm.be pg 4) ++ Pm.be sl 2)).toArray⟩] := hO8'
  have hX8 := hX7.grown hL8 (by simp)
  have hb8 := bo hb7 hL8 (by omega)
  clear hO7 hX7 hb7 hL8 hO8'
  have co8 := hO8.cell
  have fo8 := hO8.frozen
  go_wp2_with fail
  refine bodyPost_ret (v := .tuple #[.string ⟨(Pm.be tx 8 ++ Pm.be st 1 ++ Pm.be num 8 ++ Pm.be fi 4 ++ Pm.be la 4 ++ Pm.be pg 4 ++ Pm.be sl 2).toArray⟩, .int .i64 0]) (by simp [results, Try.results17, go_sem, co8, fo8]) rfl ⟨rfl, ?_⟩
  exact bs hb8 (p := ⟨w.heap.size + 1, 0, none⟩) (Nat.le_succ _) _
set_option maxRecDepth 100000 in
set_option maxHeartbeats 4000000 in
theorem seg_encode_no (tx st num fi la pg sl : Nat) (w : World) (hM : ∀ W : World, Calls Try.prog 39 #[.agg #[.int .u64 tx, .int .u8 st, .int .u64 num, .int .u32 fi, .int .u32 la, .int .u32 pg, .int .u16 sl]] W fun e w' => e = .returned (.bool false) ∧ Below W.heap.size W w') :
    Calls Try.prog 17 #[.agg #[.int .u64 tx, .int .u8 st, .int .u64 num, .int .u32 fi, .int .u32 la, .int .u32 pg, .int .u16 sl]] w fun e w' => e = .returned (.tuple #[.string ⟨#[]⟩, .int .i64 2]) ∧ Below w.heap.size w w' := by
  have HM := Lib.hid hM
  clear hM
  have hO0 : Blk ((w.alloc (.cells #[.int .u64 tx, .int .u8 st, .int .u64 num, .int .u32 fi, .int .u32 la, .int .u32 pg, .int .u16 sl] 56)).alloc (.cells #[.string ⟨#[]⟩] 9)) (w.heap.size + 1) 9 #[.string ⟨([] : List UInt8).toArray⟩] := by
    have h := Blk.new (w.alloc (.cells #[.int .u64 tx, .int .u8 st, .int .u64 num, .int .u32 fi, .int .u32 la, .int .u32 pg, .int .u16 sl] 56)) 9 #[.string ⟨#[]⟩]
    simpa using h
  have hb0 : Below w.heap.size w ((w.alloc (.cells #[.int .u64 tx, .int .u8 st, .int .u64 num, .int .u32 fi, .int .u32 la, .int .u32 pg, .int .u16 sl] 56)).alloc (.cells #[.string ⟨#[]⟩] 9)) := ba (ba (Below.refl _ _) _) _
  go_enter Try.func17, Try.ntmps17
  go_wp2_with fail
  refine (HM.out _).mono ?_
  rintro e w1 ⟨rfl, hL1⟩
  have hO1 := hO0.after hL1
  have hb1 := bt hb0 hL1
  clear hO0 hb0 hL1 HM
  have co1 := hO1.cell
  have fo1 := hO1.frozen
  go_wp2_with fail
  refine bodyPost_ret (v := .tuple #[.string ⟨#[]⟩, .int .i64 2]) (by simp [results, Try.results17, go_sem, co1, fo1]) rfl ⟨rfl, ?_⟩
  exact bs hb1 (p := ⟨w.heap.size + 1, 0, none⟩) (Nat.le_succ _) _
end Go.Proofs.Ytaddjpngjhkkmaa
