/- A segment read: what the code answers, as lemmas for every input that their premises allow; a part of the proof of TopRowed. -/
import Derived.Test.YtaddjpngjhkkmaaW14
namespace Go.Proofs.Ytaddjpngjhkkmaa
open Go.RowKit
attribute [local go_sem ↓] Go.wp_at_zero Go.wp_at_succ
attribute [local go_sem ↓] add_short
theorem Blk.set1' {w : World} {t : TypeId} {d : Nat} {u : Value} (k : Blk w d t #[u]) (v : Value) : Blk (w.setCell ⟨d, 0, none⟩ v) d t #[v] := by
  have h := k.set_ 0 v
  simpa using h
set_option maxRecDepth 100000 in
set_option maxHeartbeats 4000000 in
theorem next42 (l : List UInt8) (a size : Nat) (vs va : Nat) (w : World) (hl : l.length ≤ 1000000) (h1 : 1 ≤ size) (h8 : size ≤ 8) (ha : a ≤ 1000000)
    (hS : Blk w vs 9 #[.string ⟨l.toArray⟩]) (hA : Blk w va 3 #[.int .i64 a]) :
    Calls Try.prog 42 #[.int .i64 size, .pointer (some ⟨vs, 0, none⟩), .pointer (some ⟨va, 0, none⟩)] w fun e w' => e = .returned (.int .u64 (Pm.getN l a size : Nat)) ∧
      Blk w' va 3 #[.int .i64 ((a + size : Nat) : Int)] ∧ Only w w' va := by
  have cs := hS.cell 0
  have ca := hA.cell 0
  simp at cs ca
  have G := Lib.hid (get_any l a size w hl h1 h8 (by omega))
  go_enter Try.func42, Try.ntmps42
  go_wp2_with fail
  refine G.out.mono ?_
  rintro e w1 ⟨rfl, hb1⟩
  have hA1 := hA.after hb1
  have ca1 := hA1.cell 0
  have fa1 := hA1.frozen 0
  simp at ca1
  go_wp2_with fail
  go_ret
  refine ⟨rfl, ?_, ((Only.refl w va).below hb1).set_ 0 _⟩
  show Blk _ va 3 #[.int .i64 ((a : Int) + size)]
  exact hA1.set1' _
set_option maxRecDepth 100000 in
set_option maxHeartbeats 4000000 in
theorem seg_decode (l : List UInt8) (tx st num fi la pg sl : Nat) (w : World) (hl : l.length = 31) (g0 : Pm.getN l 0 8 = tx) (g1 : Pm.getN l 8 1 = st) (g2 : Pm.getN l 9 8 = num) (g3 : Pm.getN l 17 4 = fi) (g4 : Pm.getN l 21 4 = la) (g5 : Pm.getN l 25 4 = pg) (g6 : Pm.getN l 29 2 = sl) (hst : st < 256) (hfi : fi < 4294967296) (hla : la < 4294967296) (hpg : pg < 4294967296) (hsl : sl < 65536)
    (hM : ∀ W : World, Calls Try.prog 39 #[.agg #[.int .u64 tx, .int .u8 st, .int .u64 num, .int .u32 fi, .int .u32 la, .int .u32 pg, .int .u16 sl]] W fun e w' => e = .returned (.bool true) ∧ Below W.heap.size W w') :
    Calls Try.prog 18 #[.string ⟨l.toArray⟩] w fun e w' => e = .returned (.tuple #[.agg #[.int .u64 tx, .int .u8 st, .int .u64 num, .int .u32 fi, .int .u32 la, .int .u32 pg, .int .u16 sl], .int .i64 0]) ∧ Below w.heap.size w w' := by
  have N0 := fun vs va W hS hA => next42 l 0 8 vs va W (by omega) (by omega) (by omega) (by omega) hS hA
  have N1 := fun vs va W hS hA => next42 l 8 1 vs va W (by omega) (by omega) (by omega) (by omega) hS hA
  have N2 := fun vs va W hS hA => next42 l 9 8 vs va W (by omega) (by omega) (by omega) (by omega) hS hA
  have N3 := fun vs va W hS hA => next42 l 17 4 vs va W (by omega) (by omega) (by omega) (by omega) hS hA
  have N4 := fun vs va W hS hA => next42 l 21 4 vs va W (by omega) (by omega) (by omega) (by omega) hS hA
  have N5 := fun vs va W hS hA => next42 l 25 4 vs va W (by omega) (by omega) (by omega) (by omega) hS hA
  have N6 := fun vs va W hS hA => next42 l 29 2 vs va W (by omega) (by omega) (by omega) (by omega) hS hA
  simp only [g0, g1, g2, g3, g4, g5, g6] at N0 N1 N2 N3 N4 N5 N6
  replace N0 := Lib.hid N0
  replace N1 := Lib.hid N1
  replace N2 := Lib.hid N2
  replace N3 := Lib.hid N3
  replace N4 := Lib.hid N4
  replace N5 := Lib.hid N5
  replace N6 := Lib.hid N6
  have HM := Lib.hid hM
  have hw1 : IntKind.u8.wrap (st : Int) = st := IntWalk.u8_in _ (by omega)
  have hw2 : IntKind.u32.wrap (fi : Int) = fi := IntWalk.u32_in _ (by omega)
  have hw3 : IntKind.u32.wrap (la : Int) = la := IntWalk.u32_in _ (by omega)
  have hw4 : IntKind.u32.wrap (pg : Int) = pg := IntWalk.u32_in _ (by omega)
  have hw5 : IntKind.u16.wrap (sl : Int) = sl := IntWalk.u16_in _ (by omega)
  have dl : ((l.length : Int) != 31) = false := by simp [hl]
  have HL := Lib.hid hl
  clear hM g0 g1 g2 g3 g4 g5 g6 hl
  have hS0 : Blk (((w.alloc (.cells #[.string ⟨l.toArray⟩] 9)).alloc (.cells #[.int .u64 0, .int .u8 0, .int .u64 0, .int .u32 0, .int .u32 0, .int .u32 0, .int .u16 0] 56)).alloc (.cells #[.int .i64 0] 3)) w.heap.size 9 #[.string ⟨l.toArray⟩] := ((Blk.new w 9 _).alloc _).alloc _
  have hR0 : Blk (((w.alloc (.cells #[.string ⟨l.toArray⟩] 9)).alloc (.cells #[.int .u64 0, .int .u8 0, .int .u64 0, .int .u32 0, .int .u32 0, .int .u32 0, .int .u16 0] 56)).alloc (.cells #[.int .i64 0] 3)) (w.heap.size + 1) 56 #[.int .u64 0, .int .u8 0, .int .u64 0, .int .u32 0, .int .u32 0, .int .u32 0, .int .u16 0] := by
    have h := (Blk.new (w.alloc (.cells #[.string ⟨l.toArray⟩] 9)) 56 #[.int .u64 0, .int .u8 0, .int .u64 0, .int .u32 0, .int .u32 0, .int .u32 0, .int .u16 0]).alloc (.cells #[.int .i64 0] 3)
    simpa using h
  have hA0 : Blk (((w.alloc (.cells #[.string ⟨l.toArray⟩] 9)).alloc (.cells #[.int .u64 0, .int .u8 0, .int .u64 0, .int .u32 0, .int .u32 0, .int .u32 0, .int .u16 0] 56)).alloc (.cells #[.int .i64 0] 3)) (w.heap.size + 1 + 1) 3 #[.int .i64 ((0 : Nat) : Int)] := by
    have h := Blk.new ((w.alloc (.cells #[.string ⟨l.toArray⟩] 9)).alloc (.cells #[.int .u64 0, .int .u8 0, .int .u64 0, .int .u32 0, .int .u32 0, .int .u32 0, .int .u16 0] 56)) 3 #[.int .i64 0]
    simpa using h
  have hb0 : Below w.heap.size w (((w.alloc (.cells #[.string ⟨l.toArray⟩] 9)).alloc (.cells #[.int .u64 0, .int .u8 0, .int .u64 0, .int .u32 0, .int .u32 0, .int .u32 0, .int .u16 0] 56)).alloc (.cells #[.int .i64 0] 3)) := ba (ba (ba (Below.refl _ _) _) _) _
  go_enter Try.func18, Try.ntmps18
  go_wp2_with fail
  refine (N0.out _ _ _ hS0 hA0).mono ?_
  rintro e w1 ⟨rfl, hA1, hO1⟩
  have hS1 := hS0.grown hO1 (by intro e; injection e with e; omega)
  have hR1 := hR0.grown hO1 (by intro e; injection e with e; omega)
  have hb1 := bo hb0 hO1 (by omega)
  clear hS0 hR0 hA0 hb0 hO1
  go_wp2_with fail
  refine (N1.out _ _ _ hS1 hA1).mono ?_
  rintro e w2 ⟨rfl, hA2, hO2⟩
  have hS2 := hS1.grown hO2 (by intro e; injection e with e; omega)
  have hR2 := hR1.grown hO2 (by intro e; injection e with e; omega)
  have hb2 := bo hb1 hO2 (by omega)
  clear hS1 hR1 hA1 hb1 hO2
  go_wp2_with fail
  refine (N2.out _ _ _ hS2 hA2).mono ?_
  rintro e w3 ⟨rfl, hA3, hO3⟩
  have hS3 := hS2.grown hO3 (by intro e; injection e with e; omega)
  have hR3 := hR2.grown hO3 (by intro e; injection e with e; omega)
  have hb3 := bo hb2 hO3 (by omega)
  clear hS2 hR2 hA2 hb2 hO3
  go_wp2_with fail
  refine (N3.out _ _ _ hS3 hA3).mono ?_
  rintro e w4 ⟨rfl, hA4, hO4⟩
  have hS4 := hS3.grown hO4 (by intro e; injection e with e; omega)
  have hR4 := hR3.grown hO4 (by intro e; injection e with e; omega)
  have hb4 := bo hb3 hO4 (by omega)
  clear hS3 hR3 hA3 hb3 hO4
  go_wp2_with fail
  refine (N4.out _ _ _ hS4 hA4).mono ?_
  rintro e w5 ⟨rfl, hA5, hO5⟩
  have hS5 := hS4.grown hO5 (by intro e; injection e with e; omega)
  have hR5 := hR4.grown hO5 (by intro e; injection e with e; omega)
  have hb5 := bo hb4 hO5 (by omega)
  clear hS4 hR4 hA4 hb4 hO5
  have la5 := hA5.lt
  go_wp2_with fail
  have hK5 := Blk.new w5 56 #[.int .u64 tx, .int .u8 st, .int .u64 num, .int .u32 fi, .int .u32 la, .int .u32 0, .int .u16 0]
  refine (N5.out _ _ _ (hS5.alloc _) (hA5.alloc _)).mono ?_
  rintro e w6 ⟨rfl, hA6, hO6⟩
  have hS6 := (hS5.alloc (.cells #[.int .u64 tx, .int .u8 st, .int .u64 num, .int .u32 fi, .int .u32 la, .int .u32 0, .int .u16 0] 56)).grown hO6 (by intro e; injection e with e; omega)
  have hR6 := (hR5.alloc (.cells #[.int .u64 tx, .int .u8 st, .int .u64 num, .int .u32 fi, .int .u32 la, .int .u32 0, .int .u16 0] 56)).grown hO6 (by intro e; injection e with e; omega)
  have hK6 := hK5.grown hO6 (by intro e; injection e with e; omega)
  have hb6 := bo (ba hb5 (.cells #[.int .u64 tx, .int .u8 st, .int .u64 num, .int .u32 fi, .int .u32 la, .int .u32 0, .int .u16 0] 56)) hO6 (by omega)
  clear hS5 hR5 hA5 hb5 hO6 hK5
  generalize w5.heap.size = K at *
  have ck6 := hK6.cell
  have fk6 := hK6.frozen
  have lk6 := hK6.lt
  have nks : K ≠ w.heap.size := by omega
  have nkr : K ≠ w.heap.size + 1 := by omega
  have nka : K ≠ w.heap.size + 1 + 1 := by omega
  go_wp2_with fail
  refine (N6.out _ _ _ (hS6.far (p := ⟨K, 5, none⟩) (Ne.symm nks) _) (hA6.far (p := ⟨K, 5, none⟩) (Ne.symm nka) _)).mono ?_
  rintro e w7 ⟨rfl, hA7, hO7⟩
  have hR7 := (hR6.far (p := ⟨K, 5, none⟩) (Ne.symm nkr) (.int .u32 pg)).grown hO7 (by intro e; injection e with e; omega)
  have hK7 := (hK6.set_ 5 (.int .u32 pg)).grown hO7 (by simpa using nka)
  have hb7 := bo (bs hb6 (p := ⟨K, 5, none⟩) (by show _ ≤ K; omega) (.int .u32 pg)) hO7 (by omega)
  simp only [List.setIfInBounds_toArray, List.set_cons_succ, List.set_cons_zero] at hK7
  clear hS6 hR6 hA6 hb6 hO7 hK6 ck6 fk6 lk6 hA7
  have ck7 := hK7.cell
  have fk7 := hK7.frozen
  have lk7 := hK7.lt
  go_wp2_with fail
  refine (HM.out _).mono ?_
  rintro e w8 ⟨rfl, hL8⟩
  have hR8 := (hR7.far (p := ⟨K, 6, none⟩) (Ne.symm nkr) (.int .u16 sl)).after hL8
  have hK8 := (hK7.set_ 6 (.int .u16 sl)).after hL8
  have hb8 := bt (bs hb7 (p := ⟨K, 6, none⟩) (by show _ ≤ K; omega) (.int .u16 sl)) hL8
  simp only [List.setIfInBounds_toArray, List.set_cons_succ, List.set_cons_zero] at hK8
  clear hR7 hK7 hb7 hL8 ck7 fk7 lk7
  have ck8 := hK8.cell
  have cr8 := hR8.cell
  have fr8 := hR8.frozen
  have lk8 := hK8.lt
  have lr8 := hR8.lt
  go_wp2_with fail
  refine bodyPost_ret (v := .tuple #[.agg #[.int .u64 tx, .int .u8 st, .int .u64 num, .int .u32 fi, .int .u32 la, .int .u32 pg, .int .u16 sl], .int .i64 0]) (by simp [results, Try.results18, go_sem, cr8, fr8, ck8]) rfl ⟨rfl, ?_⟩
  exact bs (bs (bs (bs (bs (bs (bs (hb8) (p := ⟨w.heap.size + 1, 0, none⟩) (Nat.le_succ _) _) (p := ⟨w.heap.size + 1, 1, none⟩) (Nat.le_succ _) _) (p := ⟨w.heap.size + 1, 2, none⟩) (Nat.le_succ _) _) (p := ⟨w.heap.size + 1, 3, none⟩) (Nat.le_succ _) _) (p := ⟨w.heap.size + 1, 4, none⟩) (Nat.le_succ _) _) (p := ⟨w.heap.size + 1, 5, none⟩) (Nat.le_succ _) _) (p := ⟨w.heap.size + 1, 6, none⟩) (Nat.le_succ _) _
end Go.Proofs.Ytaddjpngjhkkmaa
