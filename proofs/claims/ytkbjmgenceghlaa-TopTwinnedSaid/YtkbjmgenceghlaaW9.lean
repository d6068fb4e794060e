/- A text sealed: what 'Of' and 'Seal' answer for every text of at most a million bytes. -/
import Derived.Test.YtkbjmgenceghlaaW8
namespace Go.Proofs.Ytkbjmgenceghlaa
open Go.RowKit
attribute [local go_sem ↓] add_short
set_option maxRecDepth 100000 in
set_option maxHeartbeats 1000000 in
theorem of_any (p : List UInt8) (w : World) (hl : p.length ≤ 1000000) :
    Calls Try.prog 61 #[.string ⟨p.toArray⟩] w fun e w' => e = .returned (.int .u32 (Pm.crc p : Nat)) ∧ Below w.heap.size w w' := by
  have HM := Lib.hid (fun W => more_any p W hl)
  go_enter Try.func61, Try.ntmps61
  go_wp2_with fail
  refine (HM.out _).mono ?_
  rintro e w1 ⟨rfl, hb1⟩
  go_wp2_with fail
  go_ret
  exact ⟨rfl, hb1⟩
set_option maxRecDepth 100000 in
set_option maxHeartbeats 1000000 in
theorem seal_any (p : List UInt8) (w : World) (hl : p.length ≤ 1000000) :
    Calls Try.prog 54 #[.string ⟨p.toArray⟩] w fun e w' => e = .returned (.string ⟨(Pm.sealOf p).toArray⟩) ∧ Below w.heap.size w w' := by
  have HM := Lib.hid (fun W => of_any p W hl)
  have hn := Pm.crc_lt p
  have hfin : Pm.sealOf p = p ++ Pm.low4 (Pm.crc p) := rfl
  obtain ⟨n, hne⟩ : ∃ n, n = Pm.crc p := ⟨_, rfl⟩
  rw [← hne] at hn HM hfin
  have HF := Lib.hid hfin
  clear hfin hne
  have hcv : ∀ w : World, (convert 69 9 (.slice (some ⟨w.heap.size, 0, none⟩) 4 4)).run Try.prog (w.alloc (.cells #[.int .u8 ((n : Int) % 256), .int .u8 ((n : Int) / 256 % 256), .int .u8 ((n : Int) / 65536 % 256), .int .u8 ((n : Int) / 16777216)] 5)) = .ok (.string ⟨(Pm.low4 n).toArray⟩) (w.alloc (.cells #[.int .u8 ((n : Int) % 256), .int .u8 ((n : Int) / 256 % 256), .int .u8 ((n : Int) / 65536 % 256), .int .u8 ((n : Int) / 16777216)] 5)) := fun w => by
    rw [run_byte4]
    have e1 : ((n : Int) % 256).toNat = n % 256 := by omega
    have e2 : ((n : Int) / 256 % 256).toNat = n / 256 % 256 := by omega
    have e3 : ((n : Int) / 65536 % 256).toNat = n / 65536 % 256 := by omega
    have e4 : ((n : Int) / 16777216).toNat = n / 16777216 := by omega
    have e : ∀ k, UInt8.ofNat (k % 256) = UInt8.ofNat k := fun k => by apply UInt8.toNat_inj.1; simp
    rw [e1, e2, e3, e4, e, e, e]
    rfl
  have : Short p 1000000 := ⟨hl⟩
  have hsh : Short (Pm.low4 n) 4 := ⟨by simp [Pm.low4]⟩
  go_enter Try.func54, Try.ntmps54
  go_wp2_with fail
  refine (HM.out _).mono ?_
  rintro e w1 ⟨rfl, hb1⟩
  go_wp2_with fail
  go_ret
  exact ⟨by rw [HF.out]; rfl, ba hb1 _⟩
end Go.Proofs.Ytkbjmgenceghlaa
