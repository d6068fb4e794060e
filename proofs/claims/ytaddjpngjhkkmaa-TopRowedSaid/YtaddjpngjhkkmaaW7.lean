/- A row read: what the code answers, as lemmas for every input that their premises allow; a part of the proof of TopRowed. -/
import Derived.Test.YtaddjpngjhkkmaaW6
namespace Go.Proofs.Ytaddjpngjhkkmaa
open Go.RowKit
attribute [local go_sem ↓] Go.wp_at_zero Go.wp_at_succ
theorem getN_lt (l : List UInt8) (a size : Nat) : Pm.getN l a size < 256 ^ size := by
  unfold Pm.getN
  split
  · have h := num_lt ((l.drop a).take size)
    have e : ((l.drop a).take size).length = size := by simp; omega
    rwa [e] at h
  · exact Nat.pow_pos (by omega)
set_option maxRecDepth 100000 in
set_option maxHeartbeats 1000000 in
theorem piece_any (l : List UInt8) (a : Nat) (b : Bool) (v g : Nat) (w : World) (hl : l.length ≤ 1000000) (ha : a ≤ 1000000) (hV : Blk w v 65 #[.pointer (some ⟨g, 0, none⟩)]) (hB : Blk w g 69 #[.string ⟨l.toArray⟩, .int .i64 a, .bool b]) :
    Calls Try.prog 22 #[.pointer (some ⟨v, 0, none⟩)] w fun e w' => e = .returned (.string ⟨(Pm.cutN l (a + 1) (Pm.getN l a 1)).toArray⟩) ∧ Blk w' g 69 #[.string ⟨l.toArray⟩, .int .i64 ((a + 1 + Pm.getN l a 1 : Nat) : Int), .bool ((b && Pm.okN l a 1) && Pm.okN l (a + 1) (Pm.getN l a 1))] ∧ Only w w' g := by
  have cv : w.cell? ⟨v, 0, none⟩ = some (.pointer (some ⟨g, 0, none⟩)) := hV.cell 0
  have hv := hV.lt
  have hne : v ≠ g := hV.ne_ hB (by decide)
  have hn : Pm.getN l a 1 < 256 := getN_lt l a 1
  obtain ⟨n, hnn⟩ : ∃ n, n = Pm.getN l a 1 := ⟨_, rfl⟩
  rw [← hnn] at hn ⊢
  have hw : IntKind.i64.wrap (n : Int) = n := IntWalk.i64_in _ (by omega)
  have N := reading_num l a 1 b g
  rw [← hnn] at N
  have HN := Lib.hid N
  clear N hnn
  go_enter Try.func22, Try.ntmps22
  go_wp2
  go_region_held3 (fun w' => w'.cell? ⟨v, 0, none⟩ = some (.pointer (some ⟨g, 0, none⟩))) (go_keep)
    (first
     | (go_at_call 24; ((refine (HN.out _ hl (by omega) (by omega) (by omega) hB.drew).mono ?_); rintro e w1 ⟨rfl, hB1, hO1⟩; obtain ⟨hc1, hf1, hz1⟩ := hO1.blk v hv hne))
     | (go_at_call 23; ((refine (reading_text l (a + 1) n _ g _ hl (by omega) (by omega) hB1).mono ?_); rintro e w2 ⟨rfl, hB2, hO2⟩; obtain ⟨hc2, hf2, hz2⟩ := hO2.blk v hz1 hne)))
  go_wp2
  go_ret
  exact ⟨rfl, hB2, ((Only.refl _ _).drew.trans hO1).trans hO2⟩
end Go.Proofs.Ytaddjpngjhkkmaa
