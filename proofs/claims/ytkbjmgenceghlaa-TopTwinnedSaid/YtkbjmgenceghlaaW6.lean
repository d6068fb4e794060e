/- A sum's four bytes, and a text with its sum behind it: what 'low', 'sealed' and 'filled' answer for every text of at most a million bytes. -/
import Derived.Test.YtkbjmgenceghlaaW5
import Derived.Test.YtkbjmgenceghlaaShelf
import Derived.Deep.RegionHeld3
import Derived.Deep.DrawnRows
namespace Go.Proofs.Ytkbjmgenceghlaa
open Go.RowKit
/-- a bound on a list's length, found by its shape -/
class Short (l : List UInt8) (n : outParam Nat) : Prop where
  le : l.length ≤ n
instance short_nil : Short [] 0 := ⟨Nat.le_refl _⟩
instance short_cons (b : UInt8) (l : List UInt8) (n : Nat) [h : Short l n] : Short (b :: l) (n + 1) := ⟨by have := h.le; simp; omega⟩
instance short_app (l m : List UInt8) (n k : Nat) [h : Short l n] [g : Short m k] : Short (l ++ m) (n + k) := ⟨by have := h.le; have := g.le; simp; omega⟩
instance short_be (n k : Nat) : Short (Pm.be n k) k := ⟨by rw [Pm.be_length]; exact Nat.le_refl _⟩
theorem add_short {P : Program} (w : World) (l m : List UInt8) {n k : Nat} [h : Short l n] [g : Short m k] (hs : n + k ≤ 9223372036854775807) :
    (Op.stringOp .add ⟨l.toArray⟩ ⟨m.toArray⟩).run P w = .ok (.string ⟨(l ++ m).toArray⟩) w := by
  have h1 := h.le
  have h2 := g.le
  rw [run_string_add_sum w _ _ (by simp [ByteArray.size]; omega), ByteArray.mk_append_mk]
attribute [local go_sem ↓] add_short
namespace Pm
/-- a number's four bytes, the lowest first -/
def low4 (n : Nat) : List UInt8 := [UInt8.ofNat n, UInt8.ofNat (n / 256), UInt8.ofNat (n / 65536), UInt8.ofNat (n / 16777216)]
def sealOf (l : List UInt8) : List UInt8 := l ++ low4 (crc l)
def fill (l : List UInt8) (n : Nat) : List UInt8 := sealOf (l ++ zeros (n - 4 - l.length))
theorem crc_lt (l : List UInt8) : crc l < 4294967296 := by
  unfold crc crcOn
  refine Nat.xor_lt_two_pow (n := 32) (by omega) ?_
  have h : ∀ (l : List UInt8) (c : Nat), c < 4294967296 → l.foldl (fun c b => it 8 (c ^^^ b.toNat)) c < 4294967296 := by
    intro l
    induction l with
    | nil => intro c hc; exact hc
    | cons b l ih => intro c hc; exact ih _ (it_lt 8 (Nat.xor_lt_two_pow (n := 32) hc (by have := b.toNat_lt; omega)))
  exact h l _ (by omega)
end Pm
theorem run_byte4 (w : World) (a b c d : Int) :
    (convert 69 9 (.slice (some ⟨w.heap.size, 0, none⟩) 4 4)).run Try.prog (w.alloc (.cells #[.int .u8 a, .int .u8 b, .int .u8 c, .int .u8 d] 5)) = .ok (.string ⟨#[UInt8.ofNat a.toNat, UInt8.ofNat b.toNat, UInt8.ofNat c.toNat, UInt8.ofNat d.toNat]⟩) (w.alloc (.cells #[.int .u8 a, .int .u8 b, .int .u8 c, .int .u8 d] 5)) := by
  have h := run_convert_bytes_arg (P := Try.prog) (w.alloc (.cells #[.int .u8 a, .int .u8 b, .int .u8 c, .int .u8 d] 5)) 69 5 Try.underlying69 Try.underlying5 w.heap.size 0 4 4 [a, b, c, d] rfl (fun i hi => by
    rw [World.cell?_alloc_mark]
    obtain rfl | rfl | rfl | rfl : i = 0 ∨ i = 1 ∨ i = 2 ∨ i = 3 := by omega
    all_goals rfl) 9 Try.underlying9
  rw [h]
  rfl
theorem byte_of (n k : Nat) : UInt8.ofNat (((n : Int) / k % 256).toNat) = UInt8.ofNat (n / k) := by
  have e : ((n : Int) / k % 256) = ((n / k % 256 : Nat) : Int) := by simp
  rw [e, Int.toNat_natCast]
  apply UInt8.toNat_inj.1
  simp
set_option maxRecDepth 100000 in
set_option maxHeartbeats 400000 in
theorem low_any (n : Nat) (w : World) (hn : n < 4294967296) :
    Calls Try.prog 46 #[.int .u32 n] w fun e w' => e = .returned (.string ⟨(Pm.low4 n).toArray⟩) ∧ Below w.heap.size w w' := by
  have hcv := run_byte4
  go_enter Try.func46, Try.ntmps46
  go_wp2
  go_ret
  refine ⟨?_, ba (Below.refl _ _) _⟩
  show Ending.returned (Value.string ⟨#[UInt8.ofNat (n % 256), UInt8.ofNat (n / 256 % 256), UInt8.ofNat (n / 65536 % 256), UInt8.ofNat (n / 16777216)]⟩) = _
  have e : ∀ k, UInt8.ofNat (k % 256) = UInt8.ofNat k := fun k => by apply UInt8.toNat_inj.1; simp
  rw [e, e, e]
  rfl
set_option maxRecDepth 100000 in
set_option maxHeartbeats 400000 in
theorem sealed_any (l : List UInt8) (w : World) (hl : l.length ≤ 1000000) :
    Calls Try.prog 26 #[.string ⟨l.toArray⟩] w fun e w' => e = .returned (.string ⟨(Pm.sealOf l).toArray⟩) ∧ Below w.heap.size w w' := by
  have : Short l 1000000 := ⟨hl⟩
  have hc := Pm.crc_lt l
  have HS := Lib.hid (fun W => summed_any l W hl)
  have HL := Lib.hid (fun W => low_any (Pm.crc l) W hc)
  clear hc
  have hsh : Short (Pm.low4 (Pm.crc l)) 4 := ⟨by simp [Pm.low4]⟩
  go_enter Try.func26, Try.ntmps26
  go_wp2_with fail
  refine (HS.out _).mono ?_
  rintro e w1 ⟨rfl, rfl⟩
  go_wp2_with fail
  refine (HL.out _).mono ?_
  rintro e w1 ⟨rfl, hb1⟩
  go_wp2_with fail
  go_ret
  exact ⟨rfl, hb1⟩
theorem rep0 (c : Nat) (w : World) (hc : c ≤ 1000000) : Calls Try.prog 5 #[.string ⟨#[0]⟩, .int .i64 c] w fun e w' => e = .returned (.string ⟨(Pm.zeros c).toArray⟩) ∧ Below w.heap.size w w' := by
  have h := Try.strings_Repeat ⟨#[0]⟩ c w (by omega) (by show 1 * c ≤ _; omega)
  have e : Lib.repeatL (ByteArray.mk #[0]).data.toList c = Pm.zeros c := Pm.repeat0 c Lib.repeatL rfl (fun _ => rfl)
  rw [e] at h
  exact h
theorem rep_any (c : Nat) (x : UInt8) (w : World) (hc : c ≤ 1000000) : Calls Try.prog 5 #[.string ⟨[x].toArray⟩, .int .i64 c] w fun e w' => e = .returned (.string ⟨(List.replicate c x).toArray⟩) ∧ Below w.heap.size w w' := by
  have h := Try.strings_Repeat ⟨[x].toArray⟩ c w (by omega) (by show 1 * c ≤ _; omega)
  have e : Lib.repeatL (ByteArray.mk [x].toArray).data.toList c = List.replicate c x := by
    have := Lib.repeatL_replicate x 1 c
    simpa using this
  rw [e] at h
  exact h
set_option maxRecDepth 100000 in
set_option maxHeartbeats 400000 in
theorem filled_any (l : List UInt8) (n : Nat) (w : World) (hl : l.length + 4 ≤ n) (hn : n ≤ 100000) :
    Calls Try.prog 9 #[.string ⟨l.toArray⟩, .int .i64 n] w fun e w' => e = .returned (.string ⟨(Pm.fill l n).toArray⟩) ∧ Below w.heap.size w w' := by
  obtain ⟨z, hz⟩ : ∃ z : Nat, z = n - 4 - l.length := ⟨_, rfl⟩
  have hw1 : IntKind.i64.wrap ((n : Int) - 4) = (n : Int) - 4 := IntWalk.i64_in _ (by omega)
  have hw2 : IntKind.i64.wrap ((n : Int) - 4 - l.length) = (z : Int) := by rw [IntWalk.i64_in _ (by omega)]; omega
  have HR := Lib.hid (fun W => rep0 z W (by omega))
  have HE := Lib.hid (fun W => sealed_any (l ++ Pm.zeros z) W (by simp [Pm.zeros_length]; omega))
  have : Short l 100000 := ⟨by omega⟩
  have hsz : Short (Pm.zeros z) 100000 := ⟨by rw [Pm.zeros_length]; omega⟩
  have hfin : Pm.fill l n = Pm.sealOf (l ++ Pm.zeros z) := by unfold Pm.fill; rw [hz]
  have HF := Lib.hid hfin
  clear hz hfin
  go_enter Try.func9, Try.ntmps9
  go_wp2_with fail
  refine (HR.out _).mono ?_
  rintro e w1 ⟨rfl, hb1⟩
  go_wp2_with fail
  refine (HE.out _).mono ?_
  rintro e w2 ⟨rfl, hb2⟩
  go_wp2_with fail
  go_ret
  exact ⟨by rw [HF.out]; rfl, bt hb1 hb2⟩
end Go.Proofs.Ytkbjmgenceghlaa
