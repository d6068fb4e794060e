/- A part cut out of a text: what the code answers, as lemmas for every input that their premises allow; a part of the proof of TopTwinned. -/
import Derived.Test.YtkbjmgenceghlaaW2
namespace Go.Proofs.Ytkbjmgenceghlaa
open Go.RowKit
/-- '[]byte(s)': the new slice's capacity, and the world behind -/
def bcap (p : List UInt8) (w : World) : Nat := grownCap w p.length 0 5
def bworld (p : List UInt8) (w : World) : World := w.drew.alloc (.cells (bytesRow ⟨p.toArray⟩ (bcap p w)) 5 ((bytesRow ⟨p.toArray⟩ (bcap p w)).size, (bytesRow ⟨p.toArray⟩ (bcap p w)).size + 1))
theorem run_to_bytes (p : List UInt8) (w : World) : (convert 9 69 (.string ⟨p.toArray⟩)).run Try.prog w = .ok (.slice (some ⟨w.heap.size, 0, none⟩) p.length (bcap p w)) (bworld p w) := by
  have h := run_bytes_of_string (P := Try.prog) w 9 69 5 ⟨p.toArray⟩ Try.underlying9 Try.underlying69 Try.underlying5
  have hsz : (ByteArray.mk p.toArray).size = p.length := by simp [ByteArray.size]
  rw [hsz] at h
  exact h
theorem bworld_below (p : List UInt8) (w : World) : Below w.heap.size w (bworld p w) := ((Below.refl _ _).drew).alloc (Nat.le_refl _) _
theorem bworld_cell (p : List UInt8) (w : World) (j : Nat) (hj : j < p.length) : (bworld p w).cell? ⟨w.heap.size, j, none⟩ = some (.int .u8 ((p[j].toNat : Nat) : Int)) := by
  have h := World.cell?_alloc_mark w.drew (bytesRow ⟨p.toArray⟩ (bcap p w)) 5 ((bytesRow ⟨p.toArray⟩ (bcap p w)).size, (bytesRow ⟨p.toArray⟩ (bcap p w)).size + 1) j
  have h2 : (bworld p w).cell? ⟨w.heap.size, j, none⟩ = (bytesRow ⟨p.toArray⟩ (bcap p w))[j]? := h
  rw [h2, bytesRow_at _ _ _ (by simpa using hj)]
  rfl
set_option maxRecDepth 100000 in
set_option maxHeartbeats 400000 in
theorem get_no (l : List UInt8) (at_ size : Nat) (w : World) (hl : l.length ≤ 1000000) (ha : at_ ≤ 4000000000000) (hs : size ≤ 1000000) (h : l.length < at_ + size) :
    Calls Try.prog 39 #[.string ⟨l.toArray⟩, .int .i64 at_, .int .i64 size] w fun e w' => e = .returned (.tuple #[.int .u64 0, .bool false]) ∧ w = w' := by
  go_enter Try.func39, Try.ntmps39
  go_wp2_with (go_at_call 57; refine (cut_no l at_ size _ hl ha hs h).mono ?_; rintro e w' ⟨rfl, rfl⟩)
  go_ret2
  exact ⟨rfl, rfl⟩
theorem num_snoc (p : List UInt8) (k : Nat) (hk : k < p.length) : Pm.num (p.take (k + 1)) = Pm.num (p.take k) * 256 + p[k].toNat := by
  rw [List.take_succ_eq_append_getElem hk]
  unfold Pm.num
  rw [List.foldl_append]
  rfl
theorem num_from (p : List UInt8) : ∀ a : Nat, p.foldl (fun a b => a * 256 + b.toNat) a = a * 256 ^ p.length + Pm.num p ∧ Pm.num p < 256 ^ p.length := by
  unfold Pm.num
  induction p with
  | nil => intro a; simp
  | cons b p ih =>
    intro a
    have h1 := ih (a * 256 + b.toNat)
    have h2 := ih b.toNat
    have hb := b.toNat_lt
    simp only [List.foldl_cons, List.length_cons, Nat.zero_mul, Nat.zero_add, Nat.pow_succ]
    rw [h1.1, h2.1]
    have h3 := h2.2
    generalize List.foldl (fun a b => a * 256 + b.toNat) 0 p = N at *
    generalize 256 ^ p.length = P at *
    refine ⟨?_, ?_⟩
    · rw [Nat.add_mul, Nat.mul_assoc, Nat.mul_comm 256 P]
      omega
    · have hm : b.toNat * P ≤ 255 * P := Nat.mul_le_mul_right _ (by omega)
      omega
theorem num_lt (p : List UInt8) : Pm.num p < 256 ^ p.length := (num_from p 0).2
theorem or_byte (a c : Nat) (ha : a < 72057594037927936) (hc : c < 256) : bits .or .u64 (IntKind.u64.wrap ((a : Int) * 256)) (IntKind.u64.wrap (c : Int)) = ((a * 256 + c : Nat) : Int) := by
  have h1 : IntKind.u64.wrap ((a : Int) * 256) = ((a * 256 : Nat) : Int) := by rw [IntWalk.u64_in _ (by omega)]; omega
  have h2 : IntKind.u64.wrap (c : Int) = ((c : Nat) : Int) := IntWalk.u64_in _ (by omega)
  have h3 : a * 256 ||| c = a * 256 + c := by
    have := Nat.two_pow_add_eq_or_of_lt (i := 8) (b := c) (by omega) a
    rw [show 2 ^ 8 * a = a * 256 by omega] at this
    exact this.symm
  rw [h1, h2]
  have hx : (BitVec.ofInt 64 ((a * 256 : Nat) : Int)).toNat = a * 256 := by
    rw [BitVec.ofInt_natCast, BitVec.toNat_ofNat]; exact Nat.mod_eq_of_lt (by omega)
  have hy : (BitVec.ofInt 64 ((c : Nat) : Int)).toNat = c := by
    rw [BitVec.ofInt_natCast, BitVec.toNat_ofNat]; exact Nat.mod_eq_of_lt (by omega)
  show IntKind.u64.wrap ((BitVec.ofInt 64 ((a * 256 : Nat) : Int) ||| BitVec.ofInt 64 (c : Int)).toNat : Int) = _
  rw [BitVec.toNat_or, hx, hy, h3]
  exact IntWalk.u64_in _ (by omega)
set_option maxRecDepth 100000 in
set_option maxHeartbeats 400000 in
theorem get_yes (l : List UInt8) (at_ size : Nat) (w : World) (hl : l.length ≤ 1000000) (h1 : 1 ≤ size) (h8 : size ≤ 8) (h : at_ + size ≤ l.length) :
    Calls Try.prog 39 #[.string ⟨l.toArray⟩, .int .i64 at_, .int .i64 size] w fun e w' => e = .returned (.tuple #[.int .u64 (Pm.num ((l.drop at_).take size) : Nat), .bool true]) ∧ Below w.heap.size w w' := by
  have d1 : decide ((size : Int) < 1) = false := by simp; omega
  have d2 : decide (8 < (size : Int)) = false := by simp; omega
  obtain ⟨p, hp⟩ : ∃ p, p = (l.drop at_).take size := ⟨_, rfl⟩
  have hpl : p.length = size := by rw [hp]; simp; omega
  have hc := cut_yes l at_ size
  rw [← hp] at hc ⊢
  have HC := Lib.hid hc
  clear hc hp
  obtain rfl : p.length = size := hpl
  have hcv := run_to_bytes p
  go_enter Try.func39, Try.ntmps39
  go_wp2_with (go_at_call 57; refine (HC.out _ hl h).mono ?_; rintro e w' ⟨rfl, rfl⟩)
  go_loop [6, 10, 31] (fun n c i => ∃ k : Nat, k ≤ p.length ∧ i = .int .i64 k ∧ n = .int .u64 (Pm.num (p.take k) : Nat)) (fun _ _ i => p.length - (intOf i).toNat)
  case atStart => exact ⟨0, Nat.zero_le _, rfl, rfl⟩
  case round =>
    obtain ⟨k, hk, rfl, rfl⟩ := hrel
    have hcell : k < p.length → (bworld p w).cell? ⟨w.heap.size, k, none⟩ = some (.int .u8 ((p[k]?.getD 0).toNat : Nat)) := fun hk => by rw [bworld_cell p w k hk]; simp [hk]
    by_cases hlt : k < p.length
    · have hcell := hcell hlt
      have hnl : Pm.num (p.take k) < 72057594037927936 := by
        have := num_lt (p.take k)
        have e : (p.take k).length = k := by simp; omega
        rw [e] at this
        exact Nat.lt_of_lt_of_le this (Nat.le_trans (Nat.pow_le_pow_right (by omega) (show k ≤ 7 by omega)) (by decide))
      have HNL := Lib.hid hnl
      clear hnl
      have hbt : (p[k]?.getD 0).toNat < 256 := (p[k]?.getD 0).toNat_lt
      go_wp2
      go_round
      case rel =>
        refine ⟨k + 1, by omega, by go_num, ?_⟩
        rw [or_byte _ _ HNL.out (p[k]).toNat_lt, num_snoc p k hlt]
      case measure => simp [intOf]; omega
    · go_wp2
      go_ret2
      obtain rfl : k = p.length := by omega
      exact ⟨by rw [List.take_length]; rfl, bworld_below p w⟩
end Go.Proofs.Ytkbjmgenceghlaa
