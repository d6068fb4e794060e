/- A row: its size and its code: what the code answers, as lemmas for every input that their premises allow; a part of the proof of TopRowed. -/
import Derived.Test.YtaddjpngjhkkmaaW4
namespace Go.Proofs.Ytaddjpngjhkkmaa
open Go.RowKit
attribute [local go_sem ↓] Go.wp_at_zero Go.wp_at_succ
attribute [local go_sem ↓] add_short
set_option maxRecDepth 100000 in
set_option maxHeartbeats 1000000 in
theorem row_size (k v : List UInt8) (mk : Bool) (tx pg sl : Nat) (pad : Int) (w : World) (hk : k.length ≤ 1000000) (hv : v.length ≤ 1000000) (hp : -1000000 ≤ pad ∧ pad ≤ 1000000) (hpg : pg < 4294967296) (hsl : sl < 65536) :
    Calls Try.prog 8 #[.agg #[.string ⟨k.toArray⟩, .bool mk, .int .u64 tx, .int .u32 pg, .int .u16 sl, .string ⟨v.toArray⟩, .int .i64 pad]] w fun e w' => e = .returned (.int .i64 (if Pm.may k v pg sl pad = true then 17 + k.length + v.length + pad else 0)) ∧ Below w.heap.size w w' := by
  have hm := row_may k v mk tx pg sl pad
  by_cases h : Pm.may k v pg sl pad = true
  · rw [if_pos h]
    rw [h] at hm
    clear h
    have HM := Lib.hid hm
    clear hm
    go_enter Try.func8, Try.ntmps8
    go_wp2_with (go_at_call 9; ((with_reducible refine (HM.out _ hk hv hp hpg hsl).mono ?_); rintro e w1 ⟨rfl, hb1⟩; obtain ⟨hc1, hf1, hz1⟩ := bblk hb1 w.heap.size (by simp)))
    go_ret
    exact ⟨rfl, bt (ba (Below.refl _ _) _) hb1⟩
  · rw [if_neg h]
    rw [Bool.not_eq_true] at h
    rw [h] at hm
    clear h
    have HM := Lib.hid hm
    clear hm
    go_enter Try.func8, Try.ntmps8
    go_wp2_with (go_at_call 9; ((with_reducible refine (HM.out _ hk hv hp hpg hsl).mono ?_); rintro e w1 ⟨rfl, hb1⟩; obtain ⟨hc1, hf1, hz1⟩ := bblk hb1 w.heap.size (by simp)))
    go_ret
    exact ⟨rfl, bt (ba (Below.refl _ _) _) hb1⟩
set_option maxRecDepth 100000 in
set_option maxHeartbeats 1000000 in
theorem number_yes (n size : Nat) (w : World) (h1 : 1 ≤ size) (hs : size ≤ 8) (hf : n < 256 ^ size) :
    Calls Try.prog 21 #[.int .u64 n, .int .i64 size] w fun e w' => e = .returned (.string ⟨(Pm.be n size).toArray⟩) ∧ Below w.heap.size w w' := by
  have HF := Lib.hid hf
  clear hf
  go_enter Try.func21, Try.ntmps21
  go_wp2_with (go_at_call 41; ((with_reducible refine (put_yes n size _ h1 hs HF.out).mono ?_); rintro e w1 ⟨rfl, hb1⟩))
  go_ret
  exact ⟨rfl, by assumption⟩
theorem number_1 (n : Nat) (w : World) (h : n < 256) : Calls Try.prog 21 #[.int .u64 n, .int .i64 1] w fun e w' => e = .returned (.string ⟨(Pm.be n 1).toArray⟩) ∧ Below w.heap.size w w' := number_yes n 1 w (by omega) (by omega) (by omega)
theorem number_2 (n : Nat) (w : World) (h : n < 65536) : Calls Try.prog 21 #[.int .u64 n, .int .i64 2] w fun e w' => e = .returned (.string ⟨(Pm.be n 2).toArray⟩) ∧ Below w.heap.size w w' := number_yes n 2 w (by omega) (by omega) (by omega)
theorem number_4 (n : Nat) (w : World) (h : n < 4294967296) : Calls Try.prog 21 #[.int .u64 n, .int .i64 4] w fun e w' => e = .returned (.string ⟨(Pm.be n 4).toArray⟩) ∧ Below w.heap.size w w' := number_yes n 4 w (by omega) (by omega) (by omega)
theorem number_8 (n : Nat) (w : World) (h : n < 18446744073709551616) : Calls Try.prog 21 #[.int .u64 n, .int .i64 8] w fun e w' => e = .returned (.string ⟨(Pm.be n 8).toArray⟩) ∧ Below w.heap.size w w' := number_yes n 8 w (by omega) (by omega) (by omega)
set_option maxRecDepth 100000 in
set_option maxHeartbeats 2000000 in
theorem rowed_any (k v : List UInt8) (mk : Bool) (tx pg sl pad : Nat) (w : World) (hk : k.length ≤ 1000000) (hv : v.length ≤ 1000000) (hp : pad ≤ 1000000) (hpg : pg < 4294967296) (hsl : sl < 65536) :
    Calls Try.prog 7 #[.agg #[.string ⟨k.toArray⟩, .bool mk, .int .u64 tx, .int .u32 pg, .int .u16 sl, .string ⟨v.toArray⟩, .int .i64 pad]] w fun e w' => e = .returned (.string ⟨(Pm.enc k v mk tx pg sl pad).toArray⟩) ∧ Below w.heap.size w w' := by
  have : Short k 1000000 := ⟨hk⟩
  have : Short v 1000000 := ⟨hv⟩
  have : Short (Pm.zeros pad) 1000000 := ⟨by rw [Pm.zeros_length]; exact hp⟩
  cases mk
  · go_enter Try.func7, Try.ntmps7
    go_wp2
    go_region_held3 (fun w' => w'.cell? ⟨w.heap.size, 0, none⟩ = some (.string ⟨k.toArray⟩) ∧ w'.cell? ⟨w.heap.size, 1, none⟩ = some (.bool false) ∧ w'.cell? ⟨w.heap.size, 2, none⟩ = some (.int .u64 tx) ∧ w'.cell? ⟨w.heap.size, 3, none⟩ = some (.int .u32 pg) ∧ w'.cell? ⟨w.heap.size, 4, none⟩ = some (.int .u16 sl) ∧ w'.cell? ⟨w.heap.size, 5, none⟩ = some (.string ⟨v.toArray⟩) ∧ w'.cell? ⟨w.heap.size, 6, none⟩ = some (.int .i64 pad)) (go_keep)
      (first
       | (go_at_call 25; ((with_reducible refine (high_8 tx _).mono ?_); rintro e w1 ⟨rfl, hb1⟩; obtain ⟨hc1, _, hz1⟩ := bblk hb1 w.heap.size (by simp)))
       | (go_at_call 26; ((with_reducible refine (pointed_any pg sl _ hpg hsl).mono ?_); rintro e w2 ⟨rfl, hb2⟩; obtain ⟨hc2, _, hz2⟩ := bblk hb2 w.heap.size hz1))
       | (go_at_call_of 27 (Value.string ⟨k.toArray⟩); ((with_reducible refine (long_1 k _ hk).mono ?_); rintro e w3 ⟨rfl, hb3⟩; obtain ⟨hc3, _, hz3⟩ := bblk hb3 w.heap.size hz2))
       | (go_at_call_of 27 (Value.string ⟨v.toArray⟩); ((with_reducible refine (long_1 v _ hv).mono ?_); rintro e w4 ⟨rfl, hb4⟩; obtain ⟨hc4, _, hz4⟩ := bblk hb4 w.heap.size hz3))
       | (go_at_call 10; ((with_reducible refine (rep0 pad _ hp).mono ?_); rintro e w5 ⟨rfl, hb5⟩; obtain ⟨hc5, _, hz5⟩ := bblk hb5 w.heap.size hz4)))
    all_goals go_wp2
    go_ret
    exact ⟨by simp [Pm.enc], bt (bt (bt (bt (bt (bd (ba (Below.refl _ _) _)) hb1) hb2) hb3) hb4) hb5⟩
  · go_enter Try.func7, Try.ntmps7
    go_wp2
    go_region_held3 (fun w' => w'.cell? ⟨w.heap.size, 0, none⟩ = some (.string ⟨k.toArray⟩) ∧ w'.cell? ⟨w.heap.size, 1, none⟩ = some (.bool true) ∧ w'.cell? ⟨w.heap.size, 2, none⟩ = some (.int .u64 tx) ∧ w'.cell? ⟨w.heap.size, 3, none⟩ = some (.int .u32 pg) ∧ w'.cell? ⟨w.heap.size, 4, none⟩ = some (.int .u16 sl) ∧ w'.cell? ⟨w.heap.size, 5, none⟩ = some (.string ⟨v.toArray⟩) ∧ w'.cell? ⟨w.heap.size, 6, none⟩ = some (.int .i64 pad)) (go_keep)
      (first
       | (go_at_call 25; ((with_reducible refine (high_8 tx _).mono ?_); rintro e w1 ⟨rfl, hb1⟩; obtain ⟨hc1, _, hz1⟩ := bblk hb1 w.heap.size (by simp)))
       | (go_at_call 26; ((with_reducible refine (pointed_any pg sl _ hpg hsl).mono ?_); rintro e w2 ⟨rfl, hb2⟩; obtain ⟨hc2, _, hz2⟩ := bblk hb2 w.heap.size hz1))
       | (go_at_call_of 27 (Value.string ⟨k.toArray⟩); ((with_reducible refine (long_1 k _ hk).mono ?_); rintro e w3 ⟨rfl, hb3⟩; obtain ⟨hc3, _, hz3⟩ := bblk hb3 w.heap.size hz2))
       | (go_at_call_of 27 (Value.string ⟨v.toArray⟩); ((with_reducible refine (long_1 v _ hv).mono ?_); rintro e w4 ⟨rfl, hb4⟩; obtain ⟨hc4, _, hz4⟩ := bblk hb4 w.heap.size hz3))
       | (go_at_call 10; ((with_reducible refine (rep0 pad _ hp).mono ?_); rintro e w5 ⟨rfl, hb5⟩; obtain ⟨hc5, _, hz5⟩ := bblk hb5 w.heap.size hz4)))
    all_goals go_wp2
    go_ret
    exact ⟨by simp [Pm.enc], bt (bt (bt (bt (bt (bd (ba (Below.refl _ _) _)) hb1) hb2) hb3) hb4) hb5⟩
set_option maxRecDepth 100000 in
set_option maxHeartbeats 1000000 in
theorem row_encode_no (k v : List UInt8) (mk : Bool) (tx pg sl : Nat) (pad : Int) (w : World) (hk : k.length ≤ 1000000) (hv : v.length ≤ 1000000) (hp : -1000000 ≤ pad ∧ pad ≤ 1000000) (hpg : pg < 4294967296) (hsl : sl < 65536) (hm : Pm.may k v pg sl pad = false) :
    Calls Try.prog 5 #[.agg #[.string ⟨k.toArray⟩, .bool mk, .int .u64 tx, .int .u32 pg, .int .u16 sl, .string ⟨v.toArray⟩, .int .i64 pad]] w fun e w' => e = .returned (.tuple #[.string ⟨#[]⟩, .int .i64 2]) ∧ Below w.heap.size w w' := by
  have hc := row_may k v mk tx pg sl pad
  rw [hm] at hc
  clear hm
  have HM := Lib.hid hc
  clear hc
  go_enter Try.func5, Try.ntmps5
  go_wp2_with (go_at_call 9; ((with_reducible refine (HM.out _ hk hv hp hpg hsl).mono ?_); rintro e w1 ⟨rfl, hb1⟩))
  go_ret2
  exact ⟨rfl, bt (ba (Below.refl _ _) _) hb1⟩
set_option maxRecDepth 100000 in
set_option maxHeartbeats 4000000 in
theorem row_encode_yes (k v : List UInt8) (mk : Bool) (tx pg sl pad : Nat) (w : World) (hk : k.length ≤ 48) (hv : v.length ≤ 96) (hp : pad ≤ 96) (hpg : pg ≤ 1024) (hsl : sl < 65536) (htx : tx < 18446744073709551616) (hm : Pm.may k v pg sl pad = true) :
    Calls Try.prog 5 #[.agg #[.string ⟨k.toArray⟩, .bool mk, .int .u64 tx, .int .u32 pg, .int .u16 sl, .string ⟨v.toArray⟩, .int .i64 pad]] w fun e w' => e = .returned (.tuple #[.string ⟨(Pm.enc k v mk tx pg sl pad).toArray⟩, .int .i64 0]) ∧ Below w.heap.size w w' := by
  have hc := row_may k v mk tx pg sl pad
  rw [hm] at hc
  clear hm
  have HM := Lib.hid hc
  clear hc
  have HT := Lib.hid htx
  clear htx
  have : Short k 1000000 := ⟨by omega⟩
  have : Short v 1000000 := ⟨by omega⟩
  have : Short (Pm.zeros pad) 1000000 := ⟨by rw [Pm.zeros_length]; omega⟩
  have hw1 : IntKind.u64.wrap (pg : Int) = pg := IntWalk.u64_in _ (by omega)
  have hw2 : IntKind.u64.wrap (sl : Int) = sl := IntWalk.u64_in _ (by omega)
  have hw3 : IntKind.u64.wrap (k.length : Int) = k.length := IntWalk.u64_in _ (by omega)
  have hw4 : IntKind.u64.wrap (v.length : Int) = v.length := IntWalk.u64_in _ (by omega)
  cases mk
  · go_enter Try.func5, Try.ntmps5
    go_wp2_with (go_at_call 9; ((with_reducible refine (HM.out _ (by omega) (by omega) (by omega) (by omega) hsl).mono ?_); rintro e w1 ⟨rfl, hb1⟩; obtain ⟨hc1, hf1, hz1⟩ := bblk hb1 w.heap.size (by simp)))
    go_region_held3 (fun w' => w'.cell? ⟨w.heap.size, 0, none⟩ = some (.string ⟨k.toArray⟩) ∧ w'.cell? ⟨w.heap.size, 1, none⟩ = some (.bool false) ∧ w'.cell? ⟨w.heap.size, 2, none⟩ = some (.int .u64 tx) ∧ w'.cell? ⟨w.heap.size, 3, none⟩ = some (.int .u32 pg) ∧ w'.cell? ⟨w.heap.size, 4, none⟩ = some (.int .u16 sl) ∧ w'.cell? ⟨w.heap.size, 5, none⟩ = some (.string ⟨v.toArray⟩) ∧ w'.cell? ⟨w.heap.size, 6, none⟩ = some (.int .i64 pad)) (go_keep)
      (first
       | (go_at_call_of 21 (Value.int .i64 8); ((with_reducible refine (number_8 tx _ HT.out).mono ?_); rintro e w2 ⟨rfl, hb2⟩; obtain ⟨hc2, _, hz2⟩ := bblk hb2 w.heap.size hz1))
       | (go_at_call_of 21 (Value.int .i64 4); ((with_reducible refine (number_4 pg _ (by omega)).mono ?_); rintro e w3 ⟨rfl, hb3⟩; obtain ⟨hc3, _, hz3⟩ := bblk hb3 w.heap.size hz2))
       | (go_at_call_of 21 (Value.int .i64 2); ((with_reducible refine (number_2 sl _ (by omega)).mono ?_); rintro e w4 ⟨rfl, hb4⟩; obtain ⟨hc4, _, hz4⟩ := bblk hb4 w.heap.size hz3))
       | (go_at_call_of 21 (Value.int .u64 (k.length : Nat)); ((with_reducible refine (number_1 k.length _ (by omega)).mono ?_); rintro e w5 ⟨rfl, hb5⟩; obtain ⟨hc5, _, hz5⟩ := bblk hb5 w.heap.size hz4))
       | (go_at_call_of 21 (Value.int .u64 (v.length : Nat)); ((with_reducible refine (number_1 v.length _ (by omega)).mono ?_); rintro e w6 ⟨rfl, hb6⟩; obtain ⟨hc6, _, hz6⟩ := bblk hb6 w.heap.size hz5))
       | (go_at_call 10; ((with_reducible refine (rep0 pad _ (by omega)).mono ?_); rintro e w7 ⟨rfl, hb7⟩; obtain ⟨hc7, _, hz7⟩ := bblk hb7 w.heap.size hz6)))
    all_goals go_wp2
    go_ret2
    exact ⟨by simp [Pm.enc], bt (bt (bt (bt (bt (bt (bd (bt (ba (Below.refl _ _) _) hb1)) hb2) hb3) hb4) hb5) hb6) hb7⟩
  · go_enter Try.func5, Try.ntmps5
    go_wp2_with (go_at_call 9; ((with_reducible refine (HM.out _ (by omega) (by omega) (by omega) (by omega) hsl).mono ?_); rintro e w1 ⟨rfl, hb1⟩; obtain ⟨hc1, hf1, hz1⟩ := bblk hb1 w.heap.size (by simp)))
    go_region_held3 (fun w' => w'.cell? ⟨w.heap.size, 0, none⟩ = some (.string ⟨k.toArray⟩) ∧ w'.cell? ⟨w.heap.size, 1, none⟩ = some (.bool true) ∧ w'.cell? ⟨w.heap.size, 2, none⟩ = some (.int .u64 tx) ∧ w'.cell? ⟨w.heap.size, 3, none⟩ = some (.int .u32 pg) ∧ w'.cell? ⟨w.heap.size, 4, none⟩ = some (.int .u16 sl) ∧ w'.cell? ⟨w.heap.size, 5, none⟩ = some (.string ⟨v.toArray⟩) ∧ w'.cell? ⟨w.heap.size, 6, none⟩ = some (.int .i64 pad)) (go_keep)
      (first
       | (go_at_call_of 21 (Value.int .i64 8); ((with_reducible refine (number_8 tx _ HT.out).mono ?_); rintro e w2 ⟨rfl, hb2⟩; obtain ⟨hc2, _, hz2⟩ := bblk hb2 w.heap.size hz1))
       | (go_at_call_of 21 (Value.int .i64 4); ((with_reducible refine (number_4 pg _ (by omega)).mono ?_); rintro e w3 ⟨rfl, hb3⟩; obtain ⟨hc3, _, hz3⟩ := bblk hb3 w.heap.size hz2))
       | (go_at_call_of 21 (Value.int .i64 2); ((with_reducible refine (number_2 sl _ (by omega)).mono ?_); rintro e w4 ⟨rfl, hb4⟩; obtain ⟨hc4, _, hz4⟩ := bblk hb4 w.heap.size hz3))
       | (go_at_call_of 21 (Value.int .u64 (k.length : Nat)); ((with_reducible refine (number_1 k.length _ (by omega)).mono ?_); rintro e w5 ⟨rfl, hb5⟩; obtain ⟨hc5, _, hz5⟩ := bblk hb5 w.heap.size hz4))
       | (go_at_call_of 21 (Value.int .u64 (v.length : Nat)); ((with_reducible refine (number_1 v.length _ (by omega)).mono ?_); rintro e w6 ⟨rfl, hb6⟩; obtain ⟨hc6, _, hz6⟩ := bblk hb6 w.heap.size hz5))
       | (go_at_call 10; ((with_reducible refine (rep0 pad _ (by omega)).mono ?_); rintro e w7 ⟨rfl, hb7⟩; obtain ⟨hc7, _, hz7⟩ := bblk hb7 w.heap.size hz6)))
    all_goals go_wp2
    go_ret2
    exact ⟨by simp [Pm.enc], bt (bt (bt (bt (bt (bt (bd (bt (ba (Below.refl _ _) _) hb1)) hb2) hb3) hb4) hb5) hb6) hb7⟩
end Go.Proofs.Ytaddjpngjhkkmaa
