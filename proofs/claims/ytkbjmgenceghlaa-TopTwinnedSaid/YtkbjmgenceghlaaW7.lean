/- The table of a sum: what 'table' answers. -/
import Derived.Test.YtkbjmgenceghlaaW6
import Derived.Deep.MidRow
namespace Go.Proofs.Ytkbjmgenceghlaa
open Go.RowKit
theorem bsc {a : World} {g : Nat} (hg : a.heap.size ≤ g) : ∀ (vs : List Value) (o : Nat) (b : World), Below a.heap.size a b → Below a.heap.size a (b.setCells g o vs)
  | [], _, _, h => h
  | v :: r, o, b, h => by
    rw [World.setCells]
    exact bsc hg r (o + 1) _ (bs h (by exact hg) v)
theorem zero121 : Try.zeroCells121.size = 256 := by kernel_rfl
set_option maxRecDepth 100000 in
set_option maxHeartbeats 1000000 in
theorem table_any (w : World) :
    Calls Try.prog 64 #[] w fun e w' => ∃ T : Array Value, T.size = 256 ∧ (∀ j, j < 256 → T[j]? = some (.int .u32 (Pm.it 8 j : Nat))) ∧ e = .returned (.agg T) ∧ Below w.heap.size w w' := by
  go_enter Try.func64, Try.ntmps64
  go_wp2
  have hT0 := Blk.new w 121 Try.zeroCells121
  have hb0 : Below w.heap.size w (w.alloc (.cells Try.zeroCells121 121)) := ba (Below.refl _ _) _
  generalize w.alloc (.cells Try.zeroCells121 121) = w0 at *
  obtain ⟨g, hg⟩ : ∃ g, g = w.heap.size := ⟨_, rfl⟩
  rw [← hg] at hT0 ⊢
  have hgb : w.heap.size ≤ g := by omega
  clear hg
  go_loopw [2, 3] (fun c i wr => ∃ (k : Nat) (cs : Array Value), k ≤ 256 ∧ i = .int .i64 k ∧ cs.size = 256 ∧ (∀ j, j < k → cs[j]? = some (.int .u32 (Pm.it 8 j : Nat))) ∧ Blk wr g 121 cs ∧ Below w.heap.size w wr) (fun _ i _ => 256 - (intOf i).toNat)
  case atStart => exact ⟨0, _, by omega, rfl, zero121, fun j hj => by omega, hT0, hb0⟩
  case round =>
    obtain ⟨k, cs, hk, rfl, hcs, hT, hB, hb⟩ := hrel
    by_cases hlt : k < 256
    · have hw1 : IntKind.u32.wrap (k : Int) = k := IntWalk.u32_in _ (by omega)
      go_wp2
      go_loopw [2, 8] (fun c i wz => ∃ (j x : Nat), j ≤ 8 ∧ i = .int .i64 j ∧ c = .int .u32 x ∧ x < 4294967296 ∧ Hid (x = Pm.it j k) ∧ wz = wr) (fun _ i _ => 8 - (intOf i).toNat)
      case atStart => exact ⟨0, k, by omega, rfl, by simp [hw1], by omega, Lib.hid rfl, rfl⟩
      case round =>
        obtain ⟨j, x, hj, rfl, rfl, hx, HX, rfl⟩ := hrel
        by_cases hj8 : j < 8
        · have ha := bits_and1 x hx
          have hp := bits_xor (x / 2) 2197175160 (by omega) (by omega)
          have hp0 := bits_xor (x / 2) 0 (by omega) (by omega)
          have hbt := Pm.bit_lt hx
          obtain ⟨y, hy⟩ : ∃ y, y = Pm.bit x := ⟨_, rfl⟩
          rw [← hy] at hbt
          by_cases hod : x % 2 = 1
          · rw [hod] at ha
            have e : (x / 2) ^^^ 2197175160 = y := by rw [hy]; unfold Pm.bit; rw [if_pos hod]
            rw [e] at hp
            have HY := Lib.hid hy
            clear hy e hp0
            simp at ha hp
            go_wp2
            go_roundw
            case rel => exact ⟨j + 1, y, by omega, by go_num, rfl, hbt, Lib.hid (by rw [HY.out, HX.out]; rfl), trivial⟩
            case measure => simp [intOf]; omega
          · rw [show x % 2 = 0 by omega] at ha
            have e : y = x / 2 := by rw [hy]; unfold Pm.bit; rw [if_neg hod]
            have HY := Lib.hid hy
            clear hy hp
            simp at ha hp0
            go_wp2
            go_roundw
            case rel => exact ⟨j + 1, y, by omega, by go_num, by rw [e]; simp, hbt, Lib.hid (by rw [HY.out, HX.out]; rfl), trivial⟩
            case measure => simp [intOf]; omega
        · obtain rfl : j = 8 := by omega
          have cB := hB.cell
          have fB := hB.frozen
          have ck : ∃ u, cs[k]? = some u := ⟨_, Array.getElem?_eq_getElem (by omega)⟩
          obtain ⟨u, hu⟩ := ck
          have cK := cB k
          rw [hu] at cK
          go_wp2
          go_roundw
          case rel =>
            refine ⟨k + 1, cs.setIfInBounds k (.int .u32 x), by omega, by go_num, by simp [hcs], fun j hj => ?_, hB.set_ k _, bs hb (by show _ ≤ g; omega) _⟩
            rw [Array.getElem?_setIfInBounds]
            by_cases e : k = j
            · subst e; rw [if_pos rfl, if_pos (by omega), HX.out]
            · rw [if_neg e]; exact hT j (by omega)
          case measure => simp [intOf]; omega
    · obtain rfl : k = 256 := by omega
      have hr : wr.rangeAt g 0 cs.toList := fun j v hv => by rw [Nat.zero_add, hB.cell]; simpa using hv
      have hth : wr.there g 0 cs.size := fun j hj => ⟨by rw [Nat.zero_add, hB.cell, Array.getElem?_eq_getElem hj]; rfl, hB.frozen _⟩
      have hi : (Try.prog.info? 121).map (·.size) = some cs.size := by rw [hcs]; kernel_rfl
      have h1 : cs.all (·.oneCell') = true := by
        rw [Array.all_eq_true]
        intro j hj
        have h := hT j (by omega)
        rw [Array.getElem?_eq_getElem hj] at h
        injection h with h
        rw [h]
        rfl
      go_wp2
      refine wp_load_mid 121 (.tmp 0) rfl g 0 rfl cs.toList _ hr Try.underlying121 rfl (by simpa using hi) ?_
      go_step
      go_step
      refine wp_store_mid 121 (.tmp 0) (.tmp 21) rfl g 0 cs rfl rfl hth hi h1 ?_
      have hr2 : (wr.setCells g 0 cs.toList).rangeAt g 0 cs.toList := World.rangeAt_setCells_same wr g 0 cs.toList (by simpa using hth)
      have hlv := run_loadVar_mid (P := Try.prog) (wr.setCells g 0 cs.toList) g 0 121 cs.toList _ hr2 Try.underlying121 rfl (by simpa using hi)
      go_wp2
      refine bodyPost_ret (v := .agg cs) ?_ rfl ⟨cs, hcs, hT, rfl, bsc hgb _ _ _ hb⟩
      simp only [results, Try.results64, Act.put]
      simp [hlv, asAddr, Result.andThen]
end Go.Proofs.Ytkbjmgenceghlaa
