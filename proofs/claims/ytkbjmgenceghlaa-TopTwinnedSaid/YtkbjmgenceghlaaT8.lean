/- A repair: what 'Repair' answers. -/
import Derived.Test.YtkbjmgenceghlaaT7
namespace Go.Proofs.Ytkbjmgenceghlaa
open Go.RowKit
set_option maxRecDepth 100000 in
set_option maxHeartbeats 1000000 in
theorem repair_down (at_ bs : Nat) (w : World) (base d : Nat) (D : Pm.Dk) (h : IsDisk w base d D) (h1 : at_ + 33 ≤ bs) (h2 : bs ≤ D.sure.length) (h0 : D.fuse = 0) :
    Calls Try.prog 18 #[.pointer (some ⟨d, 0, none⟩), .int .i64 at_, .int .i64 bs] w fun e w' => e = .returned (.tuple #[.int .i64 0, .int .i64 40]) ∧ Below w.heap.size w w' := by
  have HP := Lib.hid (placed_any at_ 0 w base d D h (by omega) (by omega))
  have HR := Lib.hid (read_down at_ w base d D h h0)
  clear h h0 h1 h2
  go_enter Try.func18, Try.ntmps18
  go_wp2_with fail
  refine (HP.out).mono ?_
  rintro e w1 ⟨rfl, rfl⟩
  go_wp2_with fail
  refine (HR.out).mono ?_
  rintro e w1 ⟨rfl, hb1⟩
  go_wp2_with fail
  go_ret2
  exact ⟨rfl, hb1⟩
set_option maxRecDepth 100000 in
set_option maxHeartbeats 1000000 in
theorem repair_clear (at_ bs : Nat) (w : World) (base d : Nat) (D : Pm.Dk) (h : IsDisk w base d D) (h1 : at_ + 33 ≤ bs) (h2 : bs ≤ D.sure.length) (h0 : D.fuse ≠ 0) (hlo : D.loose = []) (hat : at_ < D.sure.length) (hz : D.sure[at_]'hat = Pm.zeros 128) :
    Calls Try.prog 18 #[.pointer (some ⟨d, 0, none⟩), .int .i64 at_, .int .i64 bs] w fun e w' => e = .returned (.tuple #[.int .i64 0, .int .i64 0]) ∧ Below w.heap.size w w' := by
  have HP := Lib.hid (placed_any at_ 0 w base d D h (by omega) (by omega))
  have HR := read_yes at_ w base d D h h0 hlo hat
  rw [hz] at HR
  replace HR := Lib.hid HR
  clear h h0 h1 h2 hz
  go_enter Try.func18, Try.ntmps18
  go_wp2_with fail
  refine (HP.out).mono ?_
  rintro e w1 ⟨rfl, rfl⟩
  go_wp2_with fail
  refine (HR.out).mono ?_
  rintro e w1 ⟨rfl, hb1⟩
  go_wp2_with fail
  refine (clear_any _).mono ?_
  rintro e w2 ⟨rfl, hb2⟩
  go_wp2_with fail
  go_ret2
  exact ⟨rfl, bt hb1 hb2⟩
namespace Pm
theorem num_app (l m : List UInt8) : num (l ++ m) = num l * 256 ^ m.length + num m := by
  unfold num
  rw [List.foldl_append]
  have h : ∀ (m : List UInt8) (a : Nat), m.foldl (fun a b => a * 256 + b.toNat) a = a * 256 ^ m.length + m.foldl (fun a b => a * 256 + b.toNat) 0 := by
    intro m
    induction m with
    | nil => intro a; simp
    | cons b m ih =>
      intro a
      rw [List.foldl_cons, List.foldl_cons, ih, ih (0 * 256 + b.toNat), List.length_cons, Nat.pow_succ, Nat.zero_mul, Nat.zero_add, Nat.add_mul, Nat.mul_assoc, Nat.mul_comm 256, Nat.add_assoc]
  exact h m _
theorem num_be (n : Nat) : ∀ k, num (be n k) = n % 256 ^ k
  | 0 => by simp [be, num, Nat.mod_one]
  | k + 1 => by
    have e : be n (k + 1) = [UInt8.ofNat (n / 256 ^ k)] ++ be n k := rfl
    rw [e, num_app, be_length, num_be n k]
    have e2 : num [UInt8.ofNat (n / 256 ^ k)] = n / 256 ^ k % 256 := by simp [num]
    rw [e2, Nat.pow_succ, Nat.mod_mul, Nat.mul_comm (256 ^ k), Nat.add_comm]
theorem markOf_len (ids : List Nat) (h : ids.length ≤ 8) : (markOf ids).length = 128 := by
  unfold markOf fill sealOf low4
  simp only [List.length_append, zeros_length, headK_len, List.length_cons, List.length_nil]
  omega
theorem markOf_split (ids : List Nat) : ∃ r, markOf ids = headK ids.length ids ++ r := by
  unfold markOf fill sealOf
  exact ⟨_, by rw [List.append_assoc]⟩
theorem markOf_count (ids : List Nat) (h : ids.length ≤ 8) : num (((markOf ids).drop 1).take 1) = ids.length := by
  obtain ⟨r, hr⟩ := markOf_split ids
  rw [hr]
  unfold headK
  simp [num]
  omega
theorem markOf_page (ids : List Nat) (i : Nat) (h : i < ids.length) (hp : ids[i]'h < 4294967296) : num (((markOf ids).drop (2 + 4 * i)).take 4) = ids[i]'h := by
  obtain ⟨r, hr⟩ := markOf_split ids
  have e : headK ids.length ids = headK ids.length (ids.take i) ++ (be (ids[i]'h) 4 ++ (ids.drop (i + 1)).flatMap fun p => be p 4) := by
    have e1 : ids = ids.take i ++ (ids[i]'h :: ids.drop (i + 1)) := by rw [← List.drop_eq_getElem_cons h, List.take_append_drop]
    unfold headK
    conv => lhs; rw [e1]
    rw [List.flatMap_append, List.flatMap_cons]
    simp
  have hl : (headK ids.length (ids.take i)).length = 2 + 4 * i := by rw [headK_len, List.length_take]; omega
  rw [hr, e, List.append_assoc, List.drop_left' hl, List.append_assoc, List.take_left' (be_length _ _), num_be, Nat.mod_eq_of_lt (by omega)]
theorem markOf_ne (ids : List Nat) : markOf ids ≠ zeros 128 := by
  intro h
  obtain ⟨r, hr⟩ := markOf_split ids
  rw [hr] at h
  have := congrArg (fun l => l[0]?) h
  simp [headK, zeros] at this
end Pm
end Go.Proofs.Ytkbjmgenceghlaa
