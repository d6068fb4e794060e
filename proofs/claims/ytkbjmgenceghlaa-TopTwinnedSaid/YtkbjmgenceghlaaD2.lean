/- What 'Len' and 'Fuse' answer of a disk in memory. -/
import Derived.Test.YtkbjmgenceghlaaD1
namespace Go.Proofs.Ytkbjmgenceghlaa
open Go.RowKit
set_option maxRecDepth 100000 in
set_option maxHeartbeats 1000000 in
theorem len_any (w : World) (base d : Nat) (D : Pm.Dk) (h : IsDisk w base d D) :
    Calls Try.prog 40 #[.pointer (some ⟨d, 0, none⟩)] w fun e w' => e = .returned (.int .i64 D.sure.length) ∧ w = w' := by
  have HN := Lib.hid (none_any w base d D h)
  obtain ⟨S, lv, hd, hB, hS, hL⟩ := h.ex
  have cB := hB.cell
  clear hS hL h
  go_enter Try.func40, Try.ntmps40
  go_wp2_with fail
  refine (HN.out).mono ?_
  rintro e w1 ⟨rfl, rfl⟩
  go_wp2_with fail
  go_ret
  exact ⟨rfl, rfl⟩
set_option maxRecDepth 100000 in
set_option maxHeartbeats 1000000 in
theorem fuse_any (n : Nat) (w : World) (base d : Nat) (D : Pm.Dk) (h : IsDisk w base d D) (hn : n ≤ 1000000) :
    Calls Try.prog 13 #[.pointer (some ⟨d, 0, none⟩), .int .i64 n] w fun e w' => e = .returned (.int .i64 0) ∧ IsDisk w' base d { D with fuse := n } ∧ Kept base w w' := by
  have HN := Lib.hid (none_any w base d D h)
  have HS := Lib.hid (h.setFuse n (by omega) (by omega))
  obtain ⟨S, lv, hd, hB, hS, hL⟩ := h.ex
  have cB := hB.cell
  have fB := hB.frozen
  clear hS hL h
  go_enter Try.func13, Try.ntmps13
  go_wp2_with fail
  refine (HN.out).mono ?_
  rintro e w1 ⟨rfl, rfl⟩
  go_wp2_with fail
  go_ret
  exact ⟨rfl, HS.out.1, HS.out.2⟩
end Go.Proofs.Ytkbjmgenceghlaa
