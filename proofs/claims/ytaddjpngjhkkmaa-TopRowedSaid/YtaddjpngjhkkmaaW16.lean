/- The cell: its key: what the code answers, as lemmas for every input that their premises allow; a part of the proof of TopRowed. -/
import Derived.Test.YtaddjpngjhkkmaaW15
import Derived.Deep.DeepCutAuto
import Derived.Test.YtaddjpngjhkkmaaRg
namespace Go.Proofs.Ytaddjpngjhkkmaa
open Go.RowKit
attribute [local go_sem ↓] Go.wp_at_zero Go.wp_at_succ
/-- a key: of 1 to 48 bytes -/
def SomeKey (w : World) (e : Ending) (w' : World) : Prop := ∃ k : List UInt8, 1 ≤ k.length ∧ k.length ≤ 48 ∧ e = .returned (.string ⟨k.toArray⟩) ∧ Below w.heap.size w w'
set_option maxRecDepth 100000 in
set_option maxHeartbeats 4000000 in
theorem cell_key (ky lo va pd tx pg sl : Nat) (mk : Bool) (w : World) (hky : ky < 256) (hlo : lo < 256) :
    Calls Try.prog 20 #[.agg #[.int .u8 ky, .int .u8 lo, .int .u8 va, .int .u8 pd, .bool mk, .int .u16 tx, .int .u16 pg, .int .u16 sl]] w (SomeKey w) := by
  have hm1 : lo % 8 ≤ 7 := by omega
  have hm2 : lo / 32 ≤ 7 := by omega
  have hn : lo % 8 * (lo / 32) ≤ 49 := Nat.mul_le_mul hm1 hm2
  obtain ⟨n, hnn⟩ : ∃ n : Nat, n = lo % 8 * (lo / 32) := ⟨_, rfl⟩
  have hni : (lo : Int) % 8 * ((lo : Int) / 32) = (n : Int) := by rw [hnn]; simp
  rw [← hnn] at hn
  clear hnn hm1 hm2
  go_enter Try.func20, Try.ntmps20
  go_wp2
  go_loopw [3, 15] (fun s i wr => ∃ (k : Nat) (l : List UInt8), k ≤ n + 1 ∧ i = .int .i64 k ∧ s = .string ⟨l.toArray⟩ ∧ Hid (l.length = k) ∧ Blk wr w.heap.size 24 #[.int .u8 ky, .int .u8 lo, .int .u8 va, .int .u8 pd, .bool mk, .int .u16 tx, .int .u16 pg, .int .u16 sl] ∧ Below w.heap.size w wr) (fun _ i _ => n + 1 - (intOf i).toNat)
  case atStart => exact ⟨0, [], Nat.zero_le _, rfl, rfl, rfl, Blk.new _ _ _, ba (Below.refl _ _) _⟩
  case round =>
    obtain ⟨k, l, hk, rfl, rfl, HL, hB, hb⟩ := hrel
    have hlk : l.length ≤ 50 := by have := HL.out; omega
    have cb := hB.cell
    have lb := hB.lt
    have nb := Nat.ne_of_lt lb
    by_cases hlt : k < n + 1
    · have hm : (k : Int) * (lo : Int) ≤ 50 * 256 := by
        have : k * lo ≤ 50 * 256 := Nat.mul_le_mul (by omega) (by omega)
        exact_mod_cast this
      have hm0 : 0 ≤ (k : Int) * (lo : Int) := by exact_mod_cast Nat.zero_le (k * lo)
      obtain ⟨m, hmm⟩ : ∃ m : Int, m = (k : Int) * (lo : Int) := ⟨_, rfl⟩
      have hmr := hmm.symm
      rw [← hmm] at hm hm0
      clear hmm
      have hj0 : 0 ≤ ((ky : Int) + m / 5) % 4 := by omega
      have hj4 : ((ky : Int) + m / 5) % 4 < 4 := by omega
      obtain ⟨j, hj⟩ : ∃ j : Int, ((ky : Int) + m / 5) % 4 = j := ⟨_, rfl⟩
      rw [hj] at hj0 hj4
      have h4 : j = 0 ∨ j = 1 ∨ j = 2 ∨ j = 3 := by omega
      clear hj0 hj4
      rcases h4 with rfl | rfl | rfl | rfl
      all_goals
        go_wp2
        go_roundw
        case rel => exact ⟨k + 1, _, by omega, by go_num, by rw [ba_app], by have := HL.out; show _ = _; simp [this], hB.alloc _, ba hb _⟩
        case measure => simp [intOf]; omega
    · have hkn : k = n + 1 := by omega
      have hex : (ByteArray.mk l.toArray).extract 0 (min (l.length : Int) 48).toNat = ByteArray.mk (l.take (min (l.length : Int) 48).toNat).toArray := by
        rw [ByteArray.extract_mk]; simp
      have HEX := Lib.hid hex
      clear hex
      go_wp2
      go_ret
      have hl := HL.out
      refine ⟨l.take (min (l.length : Int) 48).toNat, by rw [List.length_take]; omega, by rw [List.length_take]; omega, ?_, hb⟩
      rw [← HEX.out]
      rfl
end Go.Proofs.Ytaddjpngjhkkmaa
