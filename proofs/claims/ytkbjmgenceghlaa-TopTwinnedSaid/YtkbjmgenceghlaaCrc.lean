/- Plain words: a sum bit by bit, and by a table. What the one comes to, the other does, for every text. -/
import Derived.Test.YtkbjmgenceghlaaSpec
namespace Go.Proofs.Ytkbjmgenceghlaa.Pm
/-- one bit of a sum -/
def bit (c : Nat) : Nat := if c % 2 = 1 then (c / 2) ^^^ 2197175160 else c / 2
/-- so many -/
def it : Nat → Nat → Nat
  | 0, c => c
  | j + 1, c => bit (it j c)
theorem it_front (j c : Nat) : it j (bit c) = it (j + 1) c := by
  induction j with
  | zero => rfl
  | succ j ih => show bit _ = bit _; rw [ih]
def crcOn (c : Nat) (l : List UInt8) : Nat := l.foldl (fun c b => it 8 (c ^^^ b.toNat)) c
def crc (l : List UInt8) : Nat := 4294967295 ^^^ crcOn 4294967295 l
theorem div2_xor (a b : Nat) : (a ^^^ b) / 2 = (a / 2) ^^^ (b / 2) := by
  have := Nat.shiftRight_xor_distrib (a := a) (b := b) (i := 1)
  simpa [Nat.shiftRight_succ] using this
theorem mod2_xor (a b : Nat) : (a ^^^ b) % 2 = (a % 2 + b % 2) % 2 := by
  have h := Nat.xor_mod_two_pow (a := a) (b := b) (n := 1)
  simp only [Nat.pow_one] at h
  rw [h]
  rcases Nat.mod_two_eq_zero_or_one a with ha | ha <;> rcases Nat.mod_two_eq_zero_or_one b with hb | hb <;> rw [ha, hb] <;> decide
theorem bit_xor (a b : Nat) : bit (a ^^^ b) = bit a ^^^ bit b := by
  unfold bit
  rw [mod2_xor, div2_xor]
  rcases Nat.mod_two_eq_zero_or_one a with ha | ha <;> rcases Nat.mod_two_eq_zero_or_one b with hb | hb <;> rw [ha, hb]
  · simp
  · simp [Nat.xor_assoc]
  · simp [Nat.xor_assoc, Nat.xor_comm (b / 2)]
  · simp only [Nat.reduceAdd, Nat.reduceMod, if_true]
    rw [if_neg (by omega), Nat.xor_assoc, Nat.xor_comm (b / 2), ← Nat.xor_assoc 2197175160, Nat.xor_self, Nat.zero_xor]
theorem it_xor (j a b : Nat) : it j (a ^^^ b) = it j a ^^^ it j b := by
  induction j with
  | zero => rfl
  | succ j ih => show bit _ = _; rw [ih, bit_xor]; rfl
theorem bit_even (a : Nat) : bit (2 * a) = a := by
  unfold bit
  rw [if_neg (by omega)]
  omega
theorem it_high (j a : Nat) : it j (2 ^ j * a) = a := by
  induction j with
  | zero => simp [it]
  | succ j ih => rw [← it_front, show 2 ^ (j + 1) * a = 2 * (2 ^ j * a) by rw [Nat.pow_succ]; simp [Nat.mul_comm, Nat.mul_left_comm], bit_even, ih]
theorem split_xor (c : Nat) : c = (c % 256) ^^^ (256 * (c / 256)) := by
  have h := Nat.two_pow_add_eq_or_of_lt (i := 8) (b := c % 256) (by omega) (c / 256)
  apply Nat.eq_of_testBit_eq
  intro i
  rw [Nat.testBit_xor]
  rcases Nat.lt_or_ge i 8 with hi | hi
  · have h1 : (256 * (c / 256)).testBit i = false := by
      rw [show (256 : Nat) = 2 ^ 8 from rfl, Nat.testBit_two_pow_mul]; simp; omega
    have h2 : (c % 256).testBit i = c.testBit i := by
      rw [show (256 : Nat) = 2 ^ 8 from rfl, Nat.testBit_mod_two_pow]; simp [hi]
    rw [h1, h2]; simp
  · have h1 : (256 * (c / 256)).testBit i = c.testBit i := by
      rw [show (256 : Nat) = 2 ^ 8 from rfl, Nat.testBit_two_pow_mul, Nat.testBit_div_two_pow]
      simp [hi]
    have h2 : (c % 256).testBit i = false := by
      rw [show (256 : Nat) = 2 ^ 8 from rfl, Nat.testBit_mod_two_pow]; simp; omega
    rw [h1, h2]; simp
/-- the table's way and the bits' -/
theorem it_table (c b : Nat) : it 8 (c ^^^ b) = it 8 ((c % 256) ^^^ b) ^^^ (c / 256) := by
  have e : c ^^^ b = ((c % 256) ^^^ b) ^^^ (2 ^ 8 * (c / 256)) := by
    rw [show (2 : Nat) ^ 8 = 256 from rfl, Nat.xor_assoc, Nat.xor_comm b, ← Nat.xor_assoc, ← split_xor]
  rw [e, it_xor, it_high]
theorem bit_lt {c : Nat} (h : c < 4294967296) : bit c < 4294967296 := by
  unfold bit
  split
  · exact Nat.xor_lt_two_pow (n := 32) (by omega) (by omega)
  · omega
theorem it_lt (j : Nat) {c : Nat} (h : c < 4294967296) : it j c < 4294967296 := by
  induction j with
  | zero => exact h
  | succ j ih => exact bit_lt ih
end Go.Proofs.Ytkbjmgenceghlaa.Pm
