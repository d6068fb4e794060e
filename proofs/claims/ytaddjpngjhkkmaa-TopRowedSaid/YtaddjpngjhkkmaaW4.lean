/- A key and a row that may be: what the code answers, as lemmas for every input that their premises allow; a part of the proof of TopRowed. -/
import Derived.Test.YtaddjpngjhkkmaaW3
import Derived.Test.YtaddjpngjhkkmaaMem
import Derived.Test.YtaddjpngjhkkmaaShelf
import Derived.Deep.RegionHeld3
import Derived.Deep.DrawnRows
namespace Go.Proofs.Ytaddjpngjhkkmaa
open Go.RowKit
attribute [local go_sem ↓] Go.wp_at_zero Go.wp_at_succ
theorem bcell {W w1 : World} (hb : Below W.heap.size W w1) : (∀ b o, b < W.heap.size → w1.cell? ⟨b, o, none⟩ = W.cell? ⟨b, o, none⟩) ∧ (∀ b o, b < W.heap.size → w1.frozen? ⟨b, o, none⟩ = W.frozen? ⟨b, o, none⟩) :=
  ⟨fun b o h => hb.cell (p := ⟨b, o, none⟩) h, fun b o h => hb.frozen (p := ⟨b, o, none⟩) h⟩
/-- a bound on a list's length, found by its shape -/
class Short (l : List UInt8) (n : outParam Nat) : Prop where
  le : l.length ≤ n
instance short_nil : Short [] 0 := ⟨Nat.le_refl _⟩
instance short_cons (b : UInt8) (l : List UInt8) (n : Nat) [h : Short l n] : Short (b :: l) (n + 1) := ⟨by have := h.le; simp; omega⟩
instance short_app (l m : List UInt8) (n k : Nat) [h : Short l n] [g : Short m k] : Short (l ++ m) (n + k) := ⟨by have := h.le; have := g.le; simp; omega⟩
instance short_be (n k : Nat) : Short (Pm.be n k) k := ⟨by rw [Pm.be_length]; exact Nat.le_refl _⟩
theorem add_short {P : Program} (w : World) (l m : List UInt8) {n k : Nat} [h : Short l n] [g : Short m k] (hs : n + k ≤ 9223372036854775807) :
    (Op.stringOp .add ⟨l.toArray⟩ ⟨m.toArray⟩).run P w = .ok (.string ⟨(l ++ m).toArray⟩) w := by
  have h1 := h.le
  have h2 := g.le
  rw [run_string_add_sum w _ _ (by simp [ByteArray.size]; omega), ByteArray.mk_append_mk]
theorem high_1 (n : Nat) (w : World) : Calls Try.prog 25 #[.int .u64 n, .int .i64 1] w fun e w' => e = .returned (.string ⟨(Pm.be n 1).toArray⟩) ∧ Below w.heap.size w w' := high_any n 1 w (by omega)
theorem high_2 (n : Nat) (w : World) : Calls Try.prog 25 #[.int .u64 n, .int .i64 2] w fun e w' => e = .returned (.string ⟨(Pm.be n 2).toArray⟩) ∧ Below w.heap.size w w' := high_any n 2 w (by omega)
theorem high_4 (n : Nat) (w : World) : Calls Try.prog 25 #[.int .u64 n, .int .i64 4] w fun e w' => e = .returned (.string ⟨(Pm.be n 4).toArray⟩) ∧ Below w.heap.size w w' := high_any n 4 w (by omega)
theorem high_8 (n : Nat) (w : World) : Calls Try.prog 25 #[.int .u64 n, .int .i64 8] w fun e w' => e = .returned (.string ⟨(Pm.be n 8).toArray⟩) ∧ Below w.heap.size w w' := high_any n 8 w (by omega)
set_option maxRecDepth 100000 in
set_option maxHeartbeats 400000 in
theorem long_1 (l : List UInt8) (w : World) (hl : l.length ≤ 1000000) :
    Calls Try.prog 27 #[.string ⟨l.toArray⟩, .int .i64 1] w fun e w' => e = .returned (.string ⟨(Pm.be l.length 1 ++ l).toArray⟩) ∧ Below w.heap.size w w' := by
  have hbl := Pm.be_length l.length 1
  go_enter Try.func27, Try.ntmps27
  go_wp2_with (go_at_call 25; ((with_reducible refine (high_1 _ _).mono ?_); rintro e w' ⟨rfl, hb⟩))
  go_ret
  exact ⟨by rw [← ba_app]; rfl, by assumption⟩
set_option maxRecDepth 100000 in
set_option maxHeartbeats 400000 in
theorem pointed_any (page slot : Nat) (w : World) (hp : page < 4294967296) (hs : slot < 65536) :
    Calls Try.prog 26 #[.agg #[.int .u32 page, .int .u16 slot]] w fun e w' => e = .returned (.string ⟨(Pm.be page 4 ++ Pm.be slot 2).toArray⟩) ∧ Below w.heap.size w w' := by
  have hb4 := Pm.be_length page 4
  have hb2 := Pm.be_length slot 2
  have hw1 : IntKind.u64.wrap (page : Int) = page := IntWalk.u64_in _ (by omega)
  have hw2 : IntKind.u64.wrap (slot : Int) = slot := IntWalk.u64_in _ (by omega)
  go_enter Try.func26, Try.ntmps26
  go_wp2
  go_region_held3 (fun w' => w'.cell? ⟨w.heap.size, 0, none⟩ = some (.int .u32 page) ∧ w'.cell? ⟨w.heap.size, 1, none⟩ = some (.int .u16 slot)) (go_keep)
    (first
     | (go_at_call_of 25 (Value.int .i64 4); ((with_reducible refine (high_4 page _).mono ?_); rintro e w1 ⟨rfl, hb1⟩; obtain ⟨hc1, _, hz1⟩ := bblk hb1 w.heap.size (by simp)))
     | (go_at_call_of 25 (Value.int .i64 2); ((with_reducible refine (high_2 slot _).mono ?_); rintro e w2 ⟨rfl, hb2⟩; obtain ⟨hc2, _, hz2⟩ := bblk hb2 w.heap.size hz1)))
  all_goals go_wp2
  all_goals go_ret
  exact ⟨by rw [← ba_app]; rfl, bt (bt (bd (ba (Below.refl _ _) _)) hb1) hb2⟩
theorem rep0 (c : Nat) (w : World) (hc : c ≤ 1000000) : Calls Try.prog 10 #[.string ⟨#[0]⟩, .int .i64 c] w fun e w' => e = .returned (.string ⟨(Pm.zeros c).toArray⟩) ∧ Below w.heap.size w w' := by
  have h := Try.strings_Repeat ⟨#[0]⟩ c w (by omega) (by show 1 * c ≤ _; omega)
  have e : Lib.repeatL (ByteArray.mk #[0]).data.toList c = Pm.zeros c := Pm.repeat0 c Lib.repeatL rfl (fun _ => rfl)
  rw [e] at h
  exact h
set_option maxRecDepth 100000 in
set_option maxHeartbeats 400000 in
theorem key_may (k : List UInt8) (w : World) (hk : k.length ≤ 1000000) :
    Calls Try.prog 28 #[.string ⟨k.toArray⟩] w fun e w' => e = .returned (.bool (Pm.mayKey k)) ∧ w = w' := by
  by_cases h1 : 1 ≤ k.length
  · by_cases h2 : k.length ≤ 48
    · have e : Pm.mayKey k = true := by unfold Pm.mayKey; simp; omega
      rw [e]
      go_enter Try.func28, Try.ntmps28
      go_wp2
      go_ret
      exact ⟨by first | rfl | (simp; done) | (simp; omega), rfl⟩
    · have e : Pm.mayKey k = false := by unfold Pm.mayKey; simp; omega
      rw [e]
      go_enter Try.func28, Try.ntmps28
      go_wp2
      go_ret
      exact ⟨by first | rfl | (simp; done) | (simp; omega), rfl⟩
  · have e : Pm.mayKey k = false := by unfold Pm.mayKey; simp; omega
    rw [e]
    go_enter Try.func28, Try.ntmps28
    go_wp2
    go_ret
    exact ⟨by first | rfl | (simp; done) | (simp; omega), rfl⟩
set_option maxRecDepth 100000 in
set_option maxHeartbeats 1000000 in
theorem row_may (k v : List UInt8) (mk : Bool) (tx pg sl : Nat) (pad : Int) (w : World) (hk : k.length ≤ 1000000) (hv : v.length ≤ 1000000) (hp : -1000000 ≤ pad ∧ pad ≤ 1000000) (hpg : pg < 4294967296) (hsl : sl < 65536) :
    Calls Try.prog 9 #[.agg #[.string ⟨k.toArray⟩, .bool mk, .int .u64 tx, .int .u32 pg, .int .u16 sl, .string ⟨v.toArray⟩, .int .i64 pad]] w fun e w' => e = .returned (.bool (Pm.may k v pg sl pad)) ∧ Below w.heap.size w w' := by
  by_cases h0 : 1 ≤ k.length ∧ k.length ≤ 48
  · by_cases h1 : 0 ≤ pad
    · by_cases h2 : pad ≤ 96
      · by_cases h3 : (v.length : Int) ≤ 96 - pad
        · by_cases h4 : pg ≤ 1024
          · by_cases h6 : 0 < pg
            · have e : Pm.may k v pg sl pad = true := by unfold Pm.may; simp; omega
              have e1 : Pm.mayKey k = true := by unfold Pm.mayKey; simp; omega
              rw [e]
              go_enter Try.func9, Try.ntmps9
              go_wp2_with (go_at_call 28; ((with_reducible refine (key_may k _ hk).mono ?_); rintro e w1 ⟨rfl, rfl⟩; rw [e1]))
              all_goals go_ret
              all_goals exact ⟨by first | rfl | (simp; done) | (simp; omega), ba (Below.refl _ _) _⟩
            · obtain rfl : pg = 0 := by omega
              by_cases h7 : sl = 0
              · subst h7
                have e : Pm.may k v 0 0 pad = true := by unfold Pm.may; simp; omega
                have e1 : Pm.mayKey k = true := by unfold Pm.mayKey; simp; omega
                rw [e]
                go_enter Try.func9, Try.ntmps9
                go_wp2_with (go_at_call 28; ((with_reducible refine (key_may k _ hk).mono ?_); rintro e w1 ⟨rfl, rfl⟩; rw [e1]))
                all_goals go_ret
                all_goals exact ⟨by first | rfl | (simp; done) | (simp; omega), ba (Below.refl _ _) _⟩
              · have e : Pm.may k v 0 sl pad = false := by unfold Pm.may; simp; omega
                have e1 : Pm.mayKey k = true := by unfold Pm.mayKey; simp; omega
                rw [e]
                go_enter Try.func9, Try.ntmps9
                go_wp2_with (go_at_call 28; ((with_reducible refine (key_may k _ hk).mono ?_); rintro e w1 ⟨rfl, rfl⟩; rw [e1]))
                all_goals go_ret
                all_goals exact ⟨by first | rfl | (simp; done) | (simp; omega), ba (Below.refl _ _) _⟩
          · have e : Pm.may k v pg sl pad = false := by unfold Pm.may; simp; omega
            have e1 : Pm.mayKey k = true := by unfold Pm.mayKey; simp; omega
            rw [e]
            go_enter Try.func9, Try.ntmps9
            go_wp2_with (go_at_call 28; ((with_reducible refine (key_may k _ hk).mono ?_); rintro e w1 ⟨rfl, rfl⟩; rw [e1]))
            all_goals go_ret
            all_goals exact ⟨by first | rfl | (simp; done) | (simp; omega), ba (Below.refl _ _) _⟩
        · have e : Pm.may k v pg sl pad = false := by unfold Pm.may; simp; omega
          have e1 : Pm.mayKey k = true := by unfold Pm.mayKey; simp; omega
          rw [e]
          go_enter Try.func9, Try.ntmps9
          go_wp2_with (go_at_call 28; ((with_reducible refine (key_may k _ hk).mono ?_); rintro e w1 ⟨rfl, rfl⟩; rw [e1]))
          all_goals go_ret
          all_goals exact ⟨by first | rfl | (simp; done) | (simp; omega), ba (Below.refl _ _) _⟩
      · have e : Pm.may k v pg sl pad = false := by unfold Pm.may; simp; omega
        have e1 : Pm.mayKey k = true := by unfold Pm.mayKey; simp; omega
        rw [e]
        go_enter Try.func9, Try.ntmps9
        go_wp2_with (go_at_call 28; ((with_reducible refine (key_may k _ hk).mono ?_); rintro e w1 ⟨rfl, rfl⟩; rw [e1]))
        all_goals go_ret
        all_goals exact ⟨by first | rfl | (simp; done) | (simp; omega), ba (Below.refl _ _) _⟩
    · have e : Pm.may k v pg sl pad = false := by unfold Pm.may; simp; omega
      have e1 : Pm.mayKey k = true := by unfold Pm.mayKey; simp; omega
      rw [e]
      go_enter Try.func9, Try.ntmps9
      go_wp2_with (go_at_call 28; ((with_reducible refine (key_may k _ hk).mono ?_); rintro e w1 ⟨rfl, rfl⟩; rw [e1]))
      all_goals go_ret
      all_goals exact ⟨by first | rfl | (simp; done) | (simp; omega), ba (Below.refl _ _) _⟩
  · have e : Pm.may k v pg sl pad = false := by unfold Pm.may; simp; omega
    have e1 : Pm.mayKey k = false := by unfold Pm.mayKey; simp; omega
    rw [e]
    go_enter Try.func9, Try.ntmps9
    go_wp2_with (go_at_call 28; ((with_reducible refine (key_may k _ hk).mono ?_); rintro e w1 ⟨rfl, rfl⟩; rw [e1]))
    all_goals go_ret
    all_goals exact ⟨by first | rfl | (simp; done) | (simp; omega), ba (Below.refl _ _) _⟩
end Go.Proofs.Ytaddjpngjhkkmaa
