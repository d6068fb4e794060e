/- An undo record: its code: what the code answers, as lemmas for every input that their premises allow; a part of the proof of TopRowed. -/
import Derived.Test.YtaddjpngjhkkmaaW9
namespace Go.Proofs.Ytaddjpngjhkkmaa
open Go.RowKit
attribute [local go_sem ↓] Go.wp_at_zero Go.wp_at_succ
attribute [local go_sem ↓] add_short
set_option maxRecDepth 100000 in
set_option maxHeartbeats 2000000 in
theorem undo_may1 (k : List UInt8) (tx pg sl : Nat) (w : World) (hk1 : 1 ≤ k.length) (hk : k.length ≤ 48) (ht : 1 ≤ tx) (hp : pg ≤ 1024) (hps : pg = 0 → sl = 0) (hsl : sl < 65536) :
    Calls Try.prog 35 #[.agg #[.int .u8 1, .int .u64 tx, .int .u32 pg, .int .u16 sl, .string ⟨k.toArray⟩, .string ⟨#[]⟩, .bool false, .int .u64 0, .int .u32 0, .int .u16 0, .string ⟨#[]⟩, .int .i64 0]] w fun e w' => e = .returned (.bool true) ∧ Below w.heap.size w w' := by
  have e1 : Pm.mayKey k = true := by unfold Pm.mayKey; simp; omega
  have d1 : ((tx : Int) == 0) = false := by simp; omega
  have d2 : decide (1024 < (pg : Int)) = false := by simp; omega
  by_cases h0 : pg = 0
  · subst h0
    obtain rfl := hps rfl
    go_enter Try.func35, Try.ntmps35
    go_wp2_with (go_at_call 28; ((with_reducible refine (key_may k _ (by omega)).mono ?_); rintro e w1 ⟨rfl, rfl⟩; rw [e1]))
    go_ret
    exact ⟨by first | rfl | (simp; done) | (simp; omega), ba (Below.refl _ _) _⟩
  · have d3 : ((pg : Int) == 0) = false := by simp; omega
    clear hps
    go_enter Try.func35, Try.ntmps35
    go_wp2_with (go_at_call 28; ((with_reducible refine (key_may k _ (by omega)).mono ?_); rintro e w1 ⟨rfl, rfl⟩; rw [e1]))
    go_ret
    exact ⟨by first | rfl | (simp; done) | (simp; omega), ba (Below.refl _ _) _⟩
set_option maxRecDepth 100000 in
set_option maxHeartbeats 2000000 in
theorem undo_may2 (k v : List UInt8) (mk : Bool) (tx pg sl wtx wpg wsl pad : Nat) (w : World) (hk1 : 1 ≤ k.length) (hk : k.length ≤ 48) (ht : 1 ≤ tx) (hp : pg ≤ 1024) (hps : pg = 0 → sl = 0) (hsl : sl < 65536) (hwt : wtx < 18446744073709551616) (hv : v.length ≤ 96) (hpad : pad ≤ 96) (hwpg : wpg ≤ 1024) (hwsl : wsl < 65536) (hm : Pm.may k v wpg wsl pad = true) :
    Calls Try.prog 35 #[.agg #[.int .u8 2, .int .u64 tx, .int .u32 pg, .int .u16 sl, .string ⟨k.toArray⟩, .string ⟨k.toArray⟩, .bool mk, .int .u64 wtx, .int .u32 wpg, .int .u16 wsl, .string ⟨v.toArray⟩, .int .i64 pad]] w fun e w' => e = .returned (.bool true) ∧ Below w.heap.size w w' := by
  have e1 : Pm.mayKey k = true := by unfold Pm.mayKey; simp; omega
  have d1 : ((tx : Int) == 0) = false := by simp; omega
  have d2 : decide (1024 < (pg : Int)) = false := by simp; omega
  have hmm := row_may k v mk wtx wpg wsl pad
  rw [hm] at hmm
  have HM := Lib.hid hmm
  clear hmm hm
  have hkk : (k == k) = true := by simp
  by_cases h0 : pg = 0
  · subst h0
    obtain rfl := hps rfl
    go_enter Try.func35, Try.ntmps35
    go_wp2_with (first | (go_at_call 28; ((with_reducible refine (key_may k _ (by omega)).mono ?_); rintro e w1 ⟨rfl, rfl⟩; rw [e1])) | (go_at_call 9; ((with_reducible refine (HM.out _ (by omega) (by omega) (by omega) (by omega) hwsl).mono ?_); rintro e w2 ⟨rfl, hb2⟩)))
    go_ret
    exact ⟨by first | rfl | (simp; done) | (simp; omega), bt (ba (Below.refl _ _) _) (by assumption)⟩
  · have d3 : ((pg : Int) == 0) = false := by simp; omega
    clear hps
    go_enter Try.func35, Try.ntmps35
    go_wp2_with (first | (go_at_call 28; ((with_reducible refine (key_may k _ (by omega)).mono ?_); rintro e w1 ⟨rfl, rfl⟩; rw [e1])) | (go_at_call 9; ((with_reducible refine (HM.out _ (by omega) (by omega) (by omega) (by omega) hwsl).mono ?_); rintro e w2 ⟨rfl, hb2⟩)))
    go_ret
    exact ⟨by first | rfl | (simp; done) | (simp; omega), bt (ba (Below.refl _ _) _) (by assumption)⟩
theorem uput_yes (n size : Nat) (w : World) (h1 : 1 ≤ size) (hs : size ≤ 8) (hf : n < 256 ^ size) :
    Calls Try.prog 36 #[.int .u64 n, .int .i64 size] w fun e w' => e = .returned (.string ⟨(Pm.be n size).toArray⟩) ∧ Below w.heap.size w w' := by
  have HF := Lib.hid hf
  clear hf
  go_enter Try.func36, Try.ntmps36
  go_wp2_with (go_at_call 41; ((with_reducible refine (put_yes n size _ h1 hs HF.out).mono ?_); rintro e w1 ⟨rfl, hb1⟩))
  go_ret
  exact ⟨rfl, by assumption⟩
theorem uput_1 (n : Nat) (w : World) (h : n < 256) : Calls Try.prog 36 #[.int .u64 n, .int .i64 1] w fun e w' => e = .returned (.string ⟨(Pm.be n 1).toArray⟩) ∧ Below w.heap.size w w' := uput_yes n 1 w (by omega) (by omega) (by omega)
theorem uput_2 (n : Nat) (w : World) (h : n < 65536) : Calls Try.prog 36 #[.int .u64 n, .int .i64 2] w fun e w' => e = .returned (.string ⟨(Pm.be n 2).toArray⟩) ∧ Below w.heap.size w w' := uput_yes n 2 w (by omega) (by omega) (by omega)
theorem uput_4 (n : Nat) (w : World) (h : n < 4294967296) : Calls Try.prog 36 #[.int .u64 n, .int .i64 4] w fun e w' => e = .returned (.string ⟨(Pm.be n 4).toArray⟩) ∧ Below w.heap.size w w' := uput_yes n 4 w (by omega) (by omega) (by omega)
theorem uput_8 (n : Nat) (w : World) (h : n < 18446744073709551616) : Calls Try.prog 36 #[.int .u64 n, .int .i64 8] w fun e w' => e = .returned (.string ⟨(Pm.be n 8).toArray⟩) ∧ Below w.heap.size w w' := uput_yes n 8 w (by omega) (by omega) (by omega)
theorem uput_k1 (w : World) : Calls Try.prog 36 #[.int .u64 1, .int .i64 1] w fun e w' => e = .returned (.string ⟨(Pm.be 1 1).toArray⟩) ∧ Below w.heap.size w w' := uput_yes 1 1 w (by omega) (by omega) (by omega)
theorem uput_k2 (w : World) : Calls Try.prog 36 #[.int .u64 2, .int .i64 1] w fun e w' => e = .returned (.string ⟨(Pm.be 2 1).toArray⟩) ∧ Below w.heap.size w w' := uput_yes 2 1 w (by omega) (by omega) (by omega)
theorem high_k1 (w : World) : Calls Try.prog 25 #[.int .u64 1, .int .i64 1] w fun e w' => e = .returned (.string ⟨(Pm.be 1 1).toArray⟩) ∧ Below w.heap.size w w' := high_any 1 1 w (by omega)
theorem high_k2 (w : World) : Calls Try.prog 25 #[.int .u64 2, .int .i64 1] w fun e w' => e = .returned (.string ⟨(Pm.be 2 1).toArray⟩) ∧ Below w.heap.size w w' := high_any 2 1 w (by omega)
set_option maxRecDepth 100000 in
set_option maxHeartbeats 2000000 in
theorem undo_encode1 (k : List UInt8) (tx pg sl : Nat) (w : World) (hk1 : 1 ≤ k.length) (hk : k.length ≤ 48) (ht : 1 ≤ tx) (hp : pg ≤ 1024) (hps : pg = 0 → sl = 0) (hsl : sl < 65536) (htx : tx < 18446744073709551616) :
    Calls Try.prog 14 #[.agg #[.int .u8 1, .int .u64 tx, .int .u32 pg, .int .u16 sl, .string ⟨k.toArray⟩, .string ⟨#[]⟩, .bool false, .int .u64 0, .int .u32 0, .int .u16 0, .string ⟨#[]⟩, .int .i64 0]] w fun e w' => e = .returned (.tuple #[.string ⟨(Pm.be 1 1 ++ Pm.be tx 8 ++ Pm.be pg 4 ++ Pm.be sl 2 ++ k).toArray⟩, .int .i64 0]) ∧ Below w.heap.size w w' := by
  have HM := Lib.hid (fun W => undo_may1 k tx pg sl W hk1 hk ht hp hps hsl)
  have HT := Lib.hid htx
  clear htx
  have : Short k 1000000 := ⟨by omega⟩
  have hw1 : IntKind.u64.wrap (pg : Int) = pg := IntWalk.u64_in _ (by omega)
  have hw2 : IntKind.u64.wrap (sl : Int) = sl := IntWalk.u64_in _ (by omega)
  have hw3 : IntKind.u64.wrap 1 = 1 := by decide
  have hw4 : IntKind.u64.wrap 2 = 2 := by decide
  go_enter Try.func14, Try.ntmps14
  go_wp2_with (go_at_call 35; ((with_reducible refine (HM.out _).mono ?_); rintro e w1 ⟨rfl, hb1⟩; obtain ⟨hc1, hf1, hz1⟩ := bblk hb1 w.heap.size (by simp)))
  go_region_held3 (fun w' => w'.cell? ⟨w.heap.size, 0, none⟩ = some (.int .u8 1) ∧ w'.cell? ⟨w.heap.size, 1, none⟩ = some (.int .u64 tx) ∧ w'.cell? ⟨w.heap.size, 2, none⟩ = some (.int .u32 pg) ∧ w'.cell? ⟨w.heap.size, 3, none⟩ = some (.int .u16 sl) ∧ w'.cell? ⟨w.heap.size, 4, none⟩ = some (.string ⟨k.toArray⟩)) (go_keep)
      (first
       | (go_at_call_of 36 (Value.int .u64 1); ((with_reducible refine (uput_k1 _).mono ?_); rintro e w2 ⟨rfl, hb2⟩; obtain ⟨hc2, _, hz2⟩ := bblk hb2 w.heap.size hz1))
       | (go_at_call_of 36 (Value.int .i64 8); ((with_reducible refine (uput_8 tx _ HT.out).mono ?_); rintro e w3 ⟨rfl, hb3⟩; obtain ⟨hc3, _, hz3⟩ := bblk hb3 w.heap.size hz2))
       | (go_at_call_of 36 (Value.int .i64 4); ((with_reducible refine (uput_4 pg _ (by omega)).mono ?_); rintro e w4 ⟨rfl, hb4⟩; obtain ⟨hc4, _, hz4⟩ := bblk hb4 w.heap.size hz3))
       | (go_at_call_of 36 (Value.int .i64 2); ((with_reducible refine (uput_2 sl _ (by omega)).mono ?_); rintro e w5 ⟨rfl, hb5⟩; obtain ⟨hc5, _, hz5⟩ := bblk hb5 w.heap.size hz4)))
  all_goals go_wp2
  go_ret2
  exact ⟨by simp, bt (bt (bt (bt (bd (bt (ba (Below.refl _ _) _) hb1)) hb2) hb3) hb4) hb5⟩
set_option maxRecDepth 100000 in
set_option maxHeartbeats 2000000 in
theorem undone1 (k : List UInt8) (tx pg sl : Nat) (w : World) (hk1 : 1 ≤ k.length) (hk : k.length ≤ 48) (ht : 1 ≤ tx) (hp : pg ≤ 1024) (hps : pg = 0 → sl = 0) (hsl : sl < 65536) (htx : tx < 18446744073709551616) :
    Calls Try.prog 16 #[.agg #[.int .u8 1, .int .u64 tx, .int .u32 pg, .int .u16 sl, .string ⟨k.toArray⟩, .string ⟨#[]⟩, .bool false, .int .u64 0, .int .u32 0, .int .u16 0, .string ⟨#[]⟩, .int .i64 0]] w fun e w' => e = .returned (.string ⟨(Pm.be 1 1 ++ Pm.be tx 8 ++ Pm.be pg 4 ++ Pm.be sl 2 ++ k).toArray⟩) ∧ Below w.heap.size w w' := by
  have HT := Lib.hid htx
  clear htx
  have : Short k 1000000 := ⟨by omega⟩
  have hw1 : IntKind.u64.wrap (pg : Int) = pg := IntWalk.u64_in _ (by omega)
  have hw2 : IntKind.u64.wrap (sl : Int) = sl := IntWalk.u64_in _ (by omega)
  have hw3 : IntKind.u64.wrap 1 = 1 := by decide
  have hw4 : IntKind.u64.wrap 2 = 2 := by decide
  go_enter Try.func16, Try.ntmps16
  go_wp2
  go_region_held3 (fun w' => w'.cell? ⟨w.heap.size, 0, none⟩ = some (.int .u8 1) ∧ w'.cell? ⟨w.heap.size, 1, none⟩ = some (.int .u64 tx) ∧ w'.cell? ⟨w.heap.size, 2, none⟩ = some (.int .u32 pg) ∧ w'.cell? ⟨w.heap.size, 3, none⟩ = some (.int .u16 sl) ∧ w'.cell? ⟨w.heap.size, 4, none⟩ = some (.string ⟨k.toArray⟩)) (go_keep)
      (first
       | (go_at_call_of 25 (Value.int .u64 1); ((with_reducible refine (high_k1 _).mono ?_); rintro e w1 ⟨rfl, hb1⟩; obtain ⟨hc1, _, hz1⟩ := bblk hb1 w.heap.size (by simp)))
       | (go_at_call_of 25 (Value.int .i64 8); ((with_reducible refine (high_8 tx _).mono ?_); rintro e w2 ⟨rfl, hb2⟩; obtain ⟨hc2, _, hz2⟩ := bblk hb2 w.heap.size hz1))
       | (go_at_call 26; ((with_reducible refine (pointed_any pg sl _ (by omega) hsl).mono ?_); rintro e w3 ⟨rfl, hb3⟩; obtain ⟨hc3, _, hz3⟩ := bblk hb3 w.heap.size hz2)))
  all_goals go_wp2
  go_ret
  exact ⟨by simp, bt (bt (bt (bd (ba (Below.refl _ _) _)) hb1) hb2) hb3⟩
set_option maxRecDepth 100000 in
set_option maxHeartbeats 2000000 in
theorem undo_encode2 (k v : List UInt8) (mk : Bool) (tx pg sl wtx wpg wsl pad : Nat) (w : World) (hk1 : 1 ≤ k.length) (hk : k.length ≤ 48) (ht : 1 ≤ tx) (hp : pg ≤ 1024) (hps : pg = 0 → sl = 0) (hsl : sl < 65536) (htx : tx < 18446744073709551616) (hwt : wtx < 18446744073709551616) (hv : v.length ≤ 96) (hpad : pad ≤ 96) (hwpg : wpg ≤ 1024) (hwsl : wsl < 65536) (hm : Pm.may k v wpg wsl pad = true) :
    Calls Try.prog 14 #[.agg #[.int .u8 2, .int .u64 tx, .int .u32 pg, .int .u16 sl, .string ⟨k.toArray⟩, .string ⟨k.toArray⟩, .bool mk, .int .u64 wtx, .int .u32 wpg, .int .u16 wsl, .string ⟨v.toArray⟩, .int .i64 pad]] w fun e w' => e = .returned (.tuple #[.string ⟨(Pm.be 2 1 ++ Pm.be tx 8 ++ Pm.be pg 4 ++ Pm.be sl 2 ++ Pm.enc k v mk wtx wpg wsl pad).toArray⟩, .int .i64 0]) ∧ Below w.heap.size w w' := by
  have HM := Lib.hid (fun W => undo_may2 k v mk tx pg sl wtx wpg wsl pad W hk1 hk ht hp hps hsl hwt hv hpad hwpg hwsl hm)
  have HE := Lib.hid (fun W => row_encode_yes k v mk wtx wpg wsl pad W hk hv hpad hwpg hwsl hwt hm)
  have hwl : (Pm.enc k v mk wtx wpg wsl pad).length ≤ 1000000 := by unfold Pm.enc; cases mk <;> simp [Pm.be_length, Pm.zeros_length] <;> omega
  clear hm hwt
  obtain ⟨E, hE⟩ : ∃ E, E = Pm.enc k v mk wtx wpg wsl pad := ⟨_, rfl⟩
  rw [← hE] at HE hwl ⊢
  clear hE
  have : Short E 1000000 := ⟨hwl⟩
  have HT := Lib.hid htx
  clear htx
  have : Short k 1000000 := ⟨by omega⟩
  have hw1 : IntKind.u64.wrap (pg : Int) = pg := IntWalk.u64_in _ (by omega)
  have hw2 : IntKind.u64.wrap (sl : Int) = sl := IntWalk.u64_in _ (by omega)
  have hw3 : IntKind.u64.wrap 1 = 1 := by decide
  have hw4 : IntKind.u64.wrap 2 = 2 := by decide
  go_enter Try.func14, Try.ntmps14
  go_wp2_with (go_at_call 35; ((with_reducible refine (HM.out _).mono ?_); rintro e w1 ⟨rfl, hb1⟩; obtain ⟨hc1, hf1, hz1⟩ := bblk hb1 w.heap.size (by simp)))
  go_region_held3 (fun w' => w'.cell? ⟨w.heap.size, 0, none⟩ = some (.int .u8 2) ∧ w'.cell? ⟨w.heap.size, 1, none⟩ = some (.int .u64 tx) ∧ w'.cell? ⟨w.heap.size, 2, none⟩ = some (.int .u32 pg) ∧ w'.cell? ⟨w.heap.size, 3, none⟩ = some (.int .u16 sl) ∧ w'.cell? ⟨w.heap.size, 4, none⟩ = some (.string ⟨k.toArray⟩) ∧ w'.cell? ⟨w.heap.size, 5, none⟩ = some (.string ⟨k.toArray⟩) ∧ w'.cell? ⟨w.heap.size, 6, none⟩ = some (.bool mk) ∧ w'.cell? ⟨w.heap.size, 7, none⟩ = some (.int .u64 wtx) ∧ w'.cell? ⟨w.heap.size, 8, none⟩ = some (.int .u32 wpg) ∧ w'.cell? ⟨w.heap.size, 9, none⟩ = some (.int .u16 wsl) ∧ w'.cell? ⟨w.heap.size, 10, none⟩ = some (.string ⟨v.toArray⟩) ∧ w'.cell? ⟨w.heap.size, 11, none⟩ = some (.int .i64 pad)) (go_keep)
      (first
       | (go_at_call_of 36 (Value.int .u64 2); ((with_reducible refine (uput_k2 _).mono ?_); rintro e w2 ⟨rfl, hb2⟩; obtain ⟨hc2, _, hz2⟩ := bblk hb2 w.heap.size hz1))
       | (go_at_call_of 36 (Value.int .i64 8); ((with_reducible refine (uput_8 tx _ HT.out).mono ?_); rintro e w3 ⟨rfl, hb3⟩; obtain ⟨hc3, _, hz3⟩ := bblk hb3 w.heap.size hz2))
       | (go_at_call_of 36 (Value.int .i64 4); ((with_reducible refine (uput_4 pg _ (by omega)).mono ?_); rintro e w4 ⟨rfl, hb4⟩; obtain ⟨hc4, _, hz4⟩ := bblk hb4 w.heap.size hz3))
       | (go_at_call_of 36 (Value.int .i64 2); ((with_reducible refine (uput_2 sl _ (by omega)).mono ?_); rintro e w5 ⟨rfl, hb5⟩; obtain ⟨hc5, _, hz5⟩ := bblk hb5 w.heap.size hz4)))
  go_wp2_with (go_at_call 5; ((with_reducible refine (HE.out _).mono ?_); rintro e w6 ⟨rfl, hb6⟩))
  go_ret2
  exact ⟨by simp, bt (bt (bt (bt (bt (bd (bt (ba (Below.refl _ _) _) hb1)) hb2) hb3) hb4) hb5) hb6⟩
set_option maxRecDepth 100000 in
set_option maxHeartbeats 2000000 in
theorem undone2 (k v : List UInt8) (mk : Bool) (tx pg sl wtx wpg wsl pad : Nat) (w : World) (hk1 : 1 ≤ k.length) (hk : k.length ≤ 48) (ht : 1 ≤ tx) (hp : pg ≤ 1024) (hps : pg = 0 → sl = 0) (hsl : sl < 65536) (htx : tx < 18446744073709551616) (hwt : wtx < 18446744073709551616) (hv : v.length ≤ 96) (hpad : pad ≤ 96) (hwpg : wpg ≤ 1024) (hwsl : wsl < 65536) (hm : Pm.may k v wpg wsl pad = true) :
    Calls Try.prog 16 #[.agg #[.int .u8 2, .int .u64 tx, .int .u32 pg, .int .u16 sl, .string ⟨k.toArray⟩, .string ⟨k.toArray⟩, .bool mk, .int .u64 wtx, .int .u32 wpg, .int .u16 wsl, .string ⟨v.toArray⟩, .int .i64 pad]] w fun e w' => e = .returned (.string ⟨(Pm.be 2 1 ++ Pm.be tx 8 ++ Pm.be pg 4 ++ Pm.be sl 2 ++ Pm.enc k v mk wtx wpg wsl pad).toArray⟩) ∧ Below w.heap.size w w' := by
  have HE := Lib.hid (fun W => rowed_any k v mk wtx wpg wsl pad W (by omega) (by omega) (by omega) (by omega) hwsl)
  have hwl : (Pm.enc k v mk wtx wpg wsl pad).length ≤ 1000000 := by unfold Pm.enc; cases mk <;> simp [Pm.be_length, Pm.zeros_length] <;> omega
  clear hm hwt
  obtain ⟨E, hE⟩ : ∃ E, E = Pm.enc k v mk wtx wpg wsl pad := ⟨_, rfl⟩
  rw [← hE] at HE hwl ⊢
  clear hE
  have : Short E 1000000 := ⟨hwl⟩
  have HT := Lib.hid htx
  clear htx
  have : Short k 1000000 := ⟨by omega⟩
  have hw1 : IntKind.u64.wrap (pg : Int) = pg := IntWalk.u64_in _ (by omega)
  have hw2 : IntKind.u64.wrap (sl : Int) = sl := IntWalk.u64_in _ (by omega)
  have hw3 : IntKind.u64.wrap 1 = 1 := by decide
  have hw4 : IntKind.u64.wrap 2 = 2 := by decide
  go_enter Try.func16, Try.ntmps16
  go_wp2
  go_region_held3 (fun w' => w'.cell? ⟨w.heap.size, 0, none⟩ = some (.int .u8 2) ∧ w'.cell? ⟨w.heap.size, 1, none⟩ = some (.int .u64 tx) ∧ w'.cell? ⟨w.heap.size, 2, none⟩ = some (.int .u32 pg) ∧ w'.cell? ⟨w.heap.size, 3, none⟩ = some (.int .u16 sl) ∧ w'.cell? ⟨w.heap.size, 4, none⟩ = some (.string ⟨k.toArray⟩) ∧ w'.cell? ⟨w.heap.size, 5, none⟩ = some (.string ⟨k.toArray⟩) ∧ w'.cell? ⟨w.heap.size, 6, none⟩ = some (.bool mk) ∧ w'.cell? ⟨w.heap.size, 7, none⟩ = some (.int .u64 wtx) ∧ w'.cell? ⟨w.heap.size, 8, none⟩ = some (.int .u32 wpg) ∧ w'.cell? ⟨w.heap.size, 9, none⟩ = some (.int .u16 wsl) ∧ w'.cell? ⟨w.heap.size, 10, none⟩ = some (.string ⟨v.toArray⟩) ∧ w'.cell? ⟨w.heap.size, 11, none⟩ = some (.int .i64 pad)) (go_keep)
      (first
       | (go_at_call_of 25 (Value.int .u64 2); ((with_reducible refine (high_k2 _).mono ?_); rintro e w1 ⟨rfl, hb1⟩; obtain ⟨hc1, _, hz1⟩ := bblk hb1 w.heap.size (by simp)))
       | (go_at_call_of 25 (Value.int .i64 8); ((with_reducible refine (high_8 tx _).mono ?_); rintro e w2 ⟨rfl, hb2⟩; obtain ⟨hc2, _, hz2⟩ := bblk hb2 w.heap.size hz1))
       | (go_at_call 26; ((with_reducible refine (pointed_any pg sl _ (by omega) hsl).mono ?_); rintro e w3 ⟨rfl, hb3⟩; obtain ⟨hc3, _, hz3⟩ := bblk hb3 w.heap.size hz2)))
  go_wp2_with (go_at_call 7; ((with_reducible refine (HE.out _).mono ?_); rintro e w4 ⟨rfl, hb4⟩))
  go_ret
  exact ⟨by simp, bt (bt (bt (bt (bd (ba (Below.refl _ _) _)) hb1) hb2) hb3) hb4⟩
end Go.Proofs.Ytaddjpngjhkkmaa
