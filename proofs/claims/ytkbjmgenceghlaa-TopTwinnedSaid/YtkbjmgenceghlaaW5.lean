/- The sum of a text, bit by bit: what 'summed' answers for every text of at most a million bytes. -/
import Derived.Test.YtkbjmgenceghlaaW3
import Derived.Test.YtkbjmgenceghlaaMem
import Derived.Test.YtkbjmgenceghlaaCrc
namespace Go.Proofs.Ytkbjmgenceghlaa
open Go.RowKit
theorem bits_xor (a b : Nat) (ha : a < 4294967296) (hb : b < 4294967296) : bits .xor .u32 (a : Int) (b : Int) = ((a ^^^ b : Nat) : Int) := by
  have hx : (BitVec.ofInt 32 (a : Int)).toNat = a := by rw [BitVec.ofInt_natCast, BitVec.toNat_ofNat]; exact Nat.mod_eq_of_lt ha
  have hy : (BitVec.ofInt 32 (b : Int)).toNat = b := by rw [BitVec.ofInt_natCast, BitVec.toNat_ofNat]; exact Nat.mod_eq_of_lt hb
  have hl : a ^^^ b < 4294967296 := Nat.xor_lt_two_pow (n := 32) ha hb
  show IntKind.u32.wrap ((BitVec.ofInt 32 (a : Int) ^^^ BitVec.ofInt 32 (b : Int)).toNat : Int) = _
  rw [BitVec.toNat_xor, hx, hy]
  exact IntWalk.u32_in _ (by omega)
theorem bits_xor8 (a b : Nat) (ha : a < 256) (hb : b < 256) : bits .xor .u8 (a : Int) (b : Int) = ((a ^^^ b : Nat) : Int) := by
  have hx : (BitVec.ofInt 8 (a : Int)).toNat = a := by rw [BitVec.ofInt_natCast, BitVec.toNat_ofNat]; exact Nat.mod_eq_of_lt ha
  have hy : (BitVec.ofInt 8 (b : Int)).toNat = b := by rw [BitVec.ofInt_natCast, BitVec.toNat_ofNat]; exact Nat.mod_eq_of_lt hb
  have hl : a ^^^ b < 256 := Nat.xor_lt_two_pow (n := 8) ha hb
  show IntKind.u8.wrap ((BitVec.ofInt 8 (a : Int) ^^^ BitVec.ofInt 8 (b : Int)).toNat : Int) = _
  rw [BitVec.toNat_xor, hx, hy]
  exact IntWalk.u8_in _ (by omega)
theorem bits_and1 (a : Nat) (ha : a < 4294967296) : bits .and .u32 (a : Int) 1 = ((a % 2 : Nat) : Int) := by
  have hx : (BitVec.ofInt 32 (a : Int)).toNat = a := by rw [BitVec.ofInt_natCast, BitVec.toNat_ofNat]; exact Nat.mod_eq_of_lt ha
  show IntKind.u32.wrap ((BitVec.ofInt 32 (a : Int) &&& BitVec.ofInt 32 1).toNat : Int) = _
  rw [BitVec.toNat_and, hx, show (BitVec.ofInt 32 1).toNat = 1 from rfl, Nat.and_one_is_mod]
  exact IntWalk.u32_in _ (by omega)
set_option maxRecDepth 100000 in
set_option maxHeartbeats 1000000 in
theorem summed_any (l : List UInt8) (w : World) (hl : l.length ≤ 1000000) :
    Calls Try.prog 47 #[.string ⟨l.toArray⟩] w fun e w' => e = .returned (.int .u32 (Pm.crc l : Nat)) ∧ w = w' := by
  go_enter Try.func47, Try.ntmps47
  go_wp2
  go_loopw [3, 7] (fun c i wr => ∃ (k : Nat) (n : Nat), k ≤ l.length ∧ i = .int .i64 k ∧ c = .int .u32 n ∧ n < 4294967296 ∧ Hid (n = Pm.crcOn 4294967295 (l.take k)) ∧ wr = w) (fun _ i _ => l.length - (intOf i).toNat)
  case atStart => exact ⟨0, 4294967295, by omega, rfl, rfl, by omega, Lib.hid (by simp [Pm.crcOn]), rfl⟩
  case round =>
    obtain ⟨k, n, hk, rfl, rfl, hn, HN, rfl⟩ := hrel
    by_cases hlt : k < l.length
    · obtain ⟨b, hb⟩ : ∃ b : Nat, b = (l[k]'hlt).toNat := ⟨_, rfl⟩
      have hb2 : b < 256 := by rw [hb]; exact (l[k]'hlt).toNat_lt
      have hbi : (((⟨l.toArray⟩ : ByteArray)[k]'(by simpa [ByteArray.size] using hlt)).toNat : Int) = (b : Int) := by rw [hb]; rfl
      have hx1 := bits_xor n b hn (by omega)
      obtain ⟨m, hm⟩ : ∃ m, m = n ^^^ b := ⟨_, rfl⟩
      rw [← hm] at hx1
      have hm2 : m < 4294967296 := by rw [hm]; exact Nat.xor_lt_two_pow (n := 32) hn (by omega)
      have HM := Lib.hid hm
      have HB := Lib.hid hb
      clear hm hb
      go_wp2
      go_loopw [3, 16] (fun c i wz => ∃ (j x : Nat), j ≤ 8 ∧ i = .int .i64 j ∧ c = .int .u32 x ∧ x < 4294967296 ∧ Hid (x = Pm.it j m) ∧ wz = wr) (fun _ i _ => 8 - (intOf i).toNat)
      case atStart => exact ⟨0, m, by omega, rfl, rfl, hm2, Lib.hid rfl, rfl⟩
      case round =>
        obtain ⟨j, x, hj, rfl, rfl, hx, HX, rfl⟩ := hrel
        by_cases hj8 : j < 8
        · have ha := bits_and1 x hx
          have hp := bits_xor (x / 2) 2197175160 (by omega) (by omega)
          have hbt := Pm.bit_lt hx
          obtain ⟨y, hy⟩ : ∃ y, y = Pm.bit x := ⟨_, rfl⟩
          rw [← hy] at hbt
          by_cases hod : x % 2 = 1
          · rw [hod] at ha
            have e : (x / 2) ^^^ 2197175160 = y := by rw [hy]; unfold Pm.bit; rw [if_pos hod]
            rw [e] at hp
            have HY := Lib.hid hy
            clear hy e
            simp at ha hp
            go_wp2
            go_roundw
            case rel => exact ⟨j + 1, y, by omega, by go_num, rfl, hbt, Lib.hid (by rw [HY.out, HX.out]; rfl), trivial⟩
            case measure => simp [intOf]; omega
          · rw [show x % 2 = 0 by omega] at ha
            have e : y = x / 2 := by rw [hy]; unfold Pm.bit; rw [if_neg hod]
            have HY := Lib.hid hy
            clear hy hp
            simp at ha
            go_wp2
            go_roundw
            case rel => exact ⟨j + 1, y, by omega, by go_num, by rw [e]; simp, hbt, Lib.hid (by rw [HY.out, HX.out]; rfl), trivial⟩
            case measure => simp [intOf]; omega
        · obtain rfl : j = 8 := by omega
          go_wp2
          go_roundw
          case rel => exact ⟨k + 1, x, by omega, by go_num, rfl, hx, Lib.hid (by rw [HX.out, HM.out, HN.out, List.take_succ_eq_append_getElem hlt]; unfold Pm.crcOn; rw [List.foldl_append]; rw [HB.out]; rfl), trivial⟩
          case measure => simp [intOf]; omega
    · obtain rfl : k = l.length := by omega
      have hmx := bits_xor 4294967295 n (by omega) hn
      go_wp2
      go_ret
      have hmax : IntKind.u32.max = ((4294967295 : Nat) : Int) := rfl
      refine ⟨?_, rfl⟩
      rw [hmax, hmx, HN.out, List.take_length]
      rfl
end Go.Proofs.Ytkbjmgenceghlaa
