/- Bytes of a number, one at a time: what the code answers, as lemmas for every input that their premises allow; a part of the proof of TopTwinned. -/
import Derived.Test.YtkbjmgenceghlaaChecked
import Derived.Test.YtkbjmgenceghlaaSpec
import Derived.WalkKit
import Derived.Lib.Hide
namespace Go.Proofs.Ytkbjmgenceghlaa
open Go.RowKit
/-- a slice of one byte that was just made, as a string -/
theorem run_byte1 (P : Program) (src dst e T : TypeId) (hs : P.underlying src = some (.slice e)) (he : P.underlying e = some (.int .u8)) (hd : P.underlying dst = some .string) (w : World) (n : Int) :
    (convert src dst (.slice (some ⟨w.heap.size, 0, none⟩) 1 1)).run P (w.alloc (.cells #[.int .u8 n] T)) = .ok (.string ⟨#[UInt8.ofNat n.toNat]⟩) (w.alloc (.cells #[.int .u8 n] T)) := by
  have h := run_convert_bytes_arg (P := P) (w.alloc (.cells #[.int .u8 n] T)) src e hs he w.heap.size 0 1 1 [n] rfl (fun i hi => by
    obtain rfl : i = 0 := by omega
    rw [World.cell?_alloc_mark]
    rfl) dst hd
  rw [h]
  rfl
/-- strings by their lists -/
theorem ba_app (l m : List UInt8) : (ByteArray.mk l.toArray ++ ByteArray.mk m.toArray) = ByteArray.mk (l ++ m).toArray := by
  apply ByteArray.ext
  simp [ByteArray.data_append]
theorem ba_byte (n k : Nat) : UInt8.ofNat (((n : Int) / 2 ^ (8 * k) % 256).toNat) = UInt8.ofNat (n / 256 ^ k) := by
  have h : ((n : Int) / 2 ^ (8 * k) % 256).toNat = n / 256 ^ k % 256 := by
    have e : ((n : Int) / 2 ^ (8 * k) % 256) = ((n / 2 ^ (8 * k) % 256 : Nat) : Int) := by simp
    rw [e, Int.toNat_natCast, Nat.pow_mul]
  rw [h]
  apply UInt8.toNat_inj.1
  simp
set_option maxRecDepth 100000 in
set_option maxHeartbeats 400000 in
theorem high_any (n : Nat) (size : Nat) (w : World) (hs : size ≤ 8) :
    Calls Try.prog 8 #[.int .u64 n, .int .i64 size] w fun e w' => e = .returned (.string ⟨(Pm.be n size).toArray⟩) ∧ Below w.heap.size w w' := by
  have hcv := run_byte1 Try.prog 69 9 5 5 Try.underlying69 Try.underlying5 Try.underlying9
  go_enter Try.func8, Try.ntmps8
  go_wp2
  go_loopw [5, 6] (fun s i wr => ∃ (j : Nat) (l : List UInt8), j ≤ size ∧ i = .int .i64 ((j : Int) - 1) ∧ s = .string ⟨l.toArray⟩ ∧ l.length ≤ size ∧ Hid (l ++ Pm.be n j = Pm.be n size) ∧ Below w.heap.size w wr) (fun _ i _ => (intOf i + 1).toNat)
  case atStart => exact ⟨size, [], Nat.le_refl _, rfl, rfl, Nat.zero_le _, rfl, Below.refl _ _⟩
  case round =>
    obtain ⟨j, l, hj, rfl, rfl, hll, HL, hb⟩ := hrel
    by_cases hlt : 0 < j
    · obtain ⟨k, rfl⟩ : ∃ k, j = k + 1 := ⟨j - 1, by omega⟩
      rw [show (((k + 1 : Nat) : Int) - 1) = k by omega]
      go_wp2
      go_roundw
      case rel =>
        rw [ba_byte]
        refine ⟨k, l ++ [UInt8.ofNat (n / 256 ^ k)], by omega, rfl, by rw [← ba_app], ?_, ?_, hb.alloc hb.size _⟩
        · have := congrArg List.length HL; simp [Pm.be_length] at this; simp; omega
        · have := HL.out; rw [Pm.be] at this; show _ = _; rw [← this]; simp
      case measure => simp [intOf]
    · obtain rfl : j = 0 := by omega
      go_wp2
      go_ret
      refine ⟨?_, hb⟩
      have := HL.out
      simp [Pm.be] at this
      subst this
      rfl
end Go.Proofs.Ytkbjmgenceghlaa
