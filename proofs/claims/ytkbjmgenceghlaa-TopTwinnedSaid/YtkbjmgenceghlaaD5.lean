/- What 'Write' answers: the walk. -/
import Derived.Test.YtkbjmgenceghlaaD4
namespace Go.Proofs.Ytkbjmgenceghlaa
open Go.RowKit
theorem owns_succ {w : World} {base : Nat} {e : TypeId} {size : Nat} {v : Value} {n : Nat} {xs : List Value} (h : w.ownsRow base e size v (n + 1) xs) : ∃ g cap : Nat, v = .slice (some ⟨g, 0, none⟩) (n + 1) cap := by
  rcases h.2 with ⟨_, h0⟩ | ⟨g, cap, _, rfl, _⟩
  · cases h0
  · exact ⟨g, cap, rfl⟩
set_option maxRecDepth 100000 in
set_option maxHeartbeats 1000000 in
theorem write_down (k : Nat) (s : List UInt8) (w : World) (base d : Nat) (D : Pm.Dk) (h : IsDisk w base d D) (h0 : D.fuse = 0) :
    Calls Try.prog 50 #[.pointer (some ⟨d, 0, none⟩), .int .i64 k, .string ⟨s.toArray⟩] w fun e w' => e = .returned (.int .i64 40) ∧ w = w' := by
  have HM := Lib.hid (may_any w base d D h)
  rw [if_pos h0] at HM
  clear h0 h
  go_enter Try.func50, Try.ntmps50
  go_wp2_with fail
  refine (HM.out).mono ?_
  rintro e w1 ⟨rfl, rfl⟩
  go_wp2_with fail
  go_ret
  exact ⟨rfl, rfl⟩
set_option maxRecDepth 100000 in
set_option maxHeartbeats 400000 in
theorem write_yes (k : Nat) (s : List UInt8) (w : World) (base d : Nat) (D : Pm.Dk) (h : IsDisk w base d D) (h0 : D.fuse ≠ 0) (hk : k < D.sure.length) (hs : s.length = 128) (hfew : D.loose.length < 1000000) :
    Calls Try.prog 50 #[.pointer (some ⟨d, 0, none⟩), .int .i64 k, .string ⟨s.toArray⟩] w fun e w' => e = .returned (.int .i64 0) ∧ IsDisk w' base d { D with loose := D.loose ++ [(k, s)], fuse := Pm.burn D.fuse } ∧ Kept base w w' := by
  have HM := Lib.hid (may_any w base d D h)
  rw [if_neg h0] at HM
  have HB := Lib.hid (burns_any w base d D h)
  have hbd := h.ok.bound
  have d1 : decide ((k : Int) < 0) = false := by simp
  have d2 : decide ((D.sure.length : Int) ≤ (k : Int)) = false := by simp; omega
  have hsz : (((ByteArray.mk s.toArray).size : Int) != 128) = false := by simp [ByteArray.size, hs]
  obtain ⟨S0, lv0, hd0, hB0, hS0, hL0⟩ := h.ex
  have cB := hB0.cell
  clear hS0 hL0 h h0
  go_enter Try.func50, Try.ntmps50
  go_wp2_with fail
  refine (HM.out).mono ?_
  rintro e w1 ⟨rfl, rfl⟩
  go_wp2_with fail
  refine (HB.out).mono ?_
  rintro e w1 ⟨rfl, hI, hK⟩
  clear cB hB0 HB HM
  go_wp2_with fail
  obtain ⟨S, lv, hd, hB, hS, hL⟩ := hI.ex
  have ok := hI.ok
  clear hI
  refine wp_region_phase 13 (fun w' => Blk w' d 63 #[.slice (some ⟨S, 0, none⟩) D.sure.length D.sure.length, lv, .int .i64 (Pm.burn D.fuse)]) (by kernel_rfl) hB.drew (fun hH => ?_)
  refine wpAnyP_take 0 (some 31) (v := ?_) rfl rfl (by kernel_rfl) (fun _ _ _ h => h) hH (Or.inl ⟨by rfl, ?_⟩) ?_
  rotate_left
  · (intro w_ hSw; go_simp; try with_reducible rfl)
  simp only [Act.put, List.setIfInBounds_toArray, List.set_cons_zero, List.set_cons_succ]
  refine wpAnyP_take 1 (some 32) (v := ?_) rfl rfl (by kernel_rfl) (fun _ _ _ h => h) hH (Or.inl ⟨by rfl, ?_⟩) ?_
  rotate_left
  · (intro w_ hSw; go_simp; try with_reducible rfl)
  simp only [Act.put, List.setIfInBounds_toArray, List.set_cons_zero, List.set_cons_succ]
  refine wpAnyP_take 2 (some 33) (v := ?_) rfl rfl (by kernel_rfl) (fun _ _ _ h => h) hH (Or.inl ⟨by rfl, ?_⟩) ?_
  rotate_left
  · (intro w_ hSw; go_simp; try with_reducible rfl)
  simp only [Act.put, List.setIfInBounds_toArray, List.set_cons_zero, List.set_cons_succ]
  refine wpAnyP_take 3 (some 34) (v := ?_) rfl rfl (by kernel_rfl) (fun _ _ _ h => h) hH (Or.inl ⟨by rfl, ?_⟩) ?_
  rotate_left
  · (intro w_ hSw; go_simp; try with_reducible rfl)
  simp only [Act.put, List.setIfInBounds_toArray, List.set_cons_zero, List.set_cons_succ]
  refine wpAnyP_take 4 (some 35) (v := ?_) rfl rfl (by kernel_rfl) (fun _ _ _ h => h) hH (Or.inl ⟨by rfl, ?_⟩) ?_
  rotate_left
  · (intro w_ hSw; have cS := hSw.cell; go_simp; try with_reducible rfl)
  simp only [Act.put, List.setIfInBounds_toArray, List.set_cons_zero, List.set_cons_succ]
  refine wpAnyP_take 5 (some 36) (v := ?_) rfl rfl (by kernel_rfl) (fun _ _ _ h => h) hH (Or.inl ⟨by rfl, ?_⟩) ?_
  rotate_left
  · (intro w_ hSw; go_simp; try with_reducible rfl)
  simp only [Act.put, List.setIfInBounds_toArray, List.set_cons_zero, List.set_cons_succ]
  refine wpAnyP_take 6 (some 37) (v := ?_) rfl rfl (by kernel_rfl) (fun _ _ _ h => h) hH (Or.inl ⟨by rfl, ?_⟩) ?_
  rotate_left
  · (intro w_ hSw; go_simp; try with_reducible rfl)
  simp only [Act.put, List.setIfInBounds_toArray, List.set_cons_zero, List.set_cons_succ]
  have hw1 : Below w1.heap.size w1 w1.drew := bd (Below.refl _ _)
  have hw2 := bworld_below s w1.drew
  have hB2 := (hH.after hw2)
  have hR2 := bworld_range s w1.drew
  refine wpAnyP_runs 7 (some 38) rfl rfl (by kernel_rfl) (by rfl) (exec_convert rfl (run_to_bytes s _) (by rfl)) (fun _ => hB2) ?_
  simp only [Act.put, List.setIfInBounds_toArray, List.set_cons_zero, List.set_cons_succ]
  have hb12 : Below w1.heap.size w1 (bworld s w1.drew) := hw1.trans (hw2.mono (Nat.le_refl _))
  rw [hs]
  generalize bworld s w1.drew = w2 at *
  generalize w1.drew.heap.size = g2 at *
  generalize bcap s w1.drew = c2 at *
  refine wpAnyP_runs 8 (some 39) rfl rfl (by kernel_rfl) (by rfl) (exec_arrayAt rfl (run_arrayAt91 _ _ _) (by rfl)) (fun _ => hB2) ?_
  simp only [Act.put, List.setIfInBounds_toArray, List.set_cons_zero, List.set_cons_succ]
  refine wpAnyP_runs 9 (some 40) rfl rfl (by kernel_rfl) (by rfl) (exec_load rfl (run_loadAt_mid w2 g2 0 91 (secCells s) _ hR2 Try.underlying91 rfl (by rw [size91, secCells_len, hs])) (by rfl)) (fun _ => hB2) ?_
  simp only [Act.put, List.setIfInBounds_toArray, List.set_cons_zero, List.set_cons_succ]
  have hC : (secCells s).toArray.size = 128 := by simp [secCells_len, hs]
  refine wpAnyP_runs 10 (some 41) rfl rfl (by kernel_rfl) (by rfl) (exec_build rfl (run_build93 w2 (.int .i64 k) rfl (secCells s).toArray hC) (by simp only [List.map_toArray, List.map_cons, List.map_nil]; rfl)) (fun _ => hB2) ?_
  simp only [Act.put, List.setIfInBounds_toArray, List.set_cons_zero, List.set_cons_succ]
  refine wpAnyP_runs 11 (some 42) rfl rfl (by kernel_rfl) (by rfl) (exec_buildSlice rfl (run_lit93 w2 (#[.int .i64 k] ++ (secCells s).toArray) (by simp [secCells_len, hs])) (by simp only [List.map_toArray, List.map_cons, List.map_nil]; rfl)) (fun _ => hB2.alloc _) ?_
  simp only [Act.put, List.setIfInBounds_toArray, List.set_cons_zero, List.set_cons_succ]
  have hn : (w2.alloc (.cells (#[Value.int .i64 k] ++ (secCells s).toArray) 93)).heap.size = w2.heap.size + 1 := by simp
  have hb3 : Below w1.heap.size w1 (w2.alloc (.cells (#[Value.int .i64 k] ++ (secCells s).toArray) 93)) := ba hb12 _
  have hL3 : (w2.alloc (.cells (#[Value.int .i64 k] ++ (secCells s).toArray) 93)).ownsRow base 93 129 lv D.loose.length (looseCells D.loose) :=
    hL.kept (row := none) ⟨hb3.os, hb3.tape, hb3.output, hb3.size, fun k hk _ => hb3.block k hk⟩ (by cases hv : lv.ownBlock <;> simp)
  have hnew := Blk.new w2 93 (#[Value.int .i64 k] ++ (secCells s).toArray)
  have hB3 := hB2.alloc (.cells (#[Value.int .i64 k] ++ (secCells s).toArray) 93)
  generalize w2.alloc (.cells (#[Value.int .i64 k] ++ (secCells s).toArray) 93) = w3 at *
  obtain ⟨iz, z, hi, hz, hsz3, hby3, hzs3⟩ := info93
  have hlt1 := hB.lt
  refine wpAnyP_one 12 rfl (by kernel_rfl) (by rfl) (fun K hK' => ?_)
  refine wp_append_own w3 (.tmp 35) (.tmp 42) 61 rfl base 93 iz z 129 136 Try.underlying61 hi hz hsz3 hby3 hzs3 (by omega) lv D.loose.length (looseCells D.loose) rfl hL3 ⟨w2.heap.size, 0, none⟩ 1 1 (.int .i64 k :: secCells s) rfl ?c1 ?c2 ?c3 ?c4 ?c5 ?c6 ?c7
  case c1 => simp [secCells_len, hs]
  case c2 =>
    intro j u hu
    have e : (⟨w2.heap.size, 0, none⟩ : Addr).add j = ⟨w2.heap.size, j, none⟩ := by unfold Addr.add; split <;> simp_all
    rw [e, hnew.cell]
    rw [← hu]
    cases j <;> simp
  case c3 =>
    intro u hu
    rcases List.mem_cons.1 hu with rfl | hu
    · rfl
    · exact secCells_one hu
  case c4 => unfold maxLen; omega
  case c5 => omega
  case c6 => have := hb3.size; omega
  case c7 =>
    intro v' w4 hown hgr _
    obtain ⟨g', cap', rfl⟩ := owns_succ hown
    have hne := owned_ne hB hL (by decide)
    have hB4 := hB3.grown hgr (fun e => hne e.symm)
    obtain ⟨hI5, hK5⟩ := IsDisk.pushed ok hd hB hS hL hb3 hown hgr hk hs hfew
    refine hK'.out _ _ (fun _ => hB4) (fun _ => ?_)
    clear hK'
    simp only [Act.put, List.setIfInBounds_toArray, List.set_cons_zero, List.set_cons_succ]
    refine wpAnyP_runs 13 (some 44) rfl rfl (by kernel_rfl) (by rfl) (exec_nilCheck rfl (by rfl)) (fun h => absurd h (by omega)) ?_
    simp only [Act.put, List.setIfInBounds_toArray, List.set_cons_zero, List.set_cons_succ]
    refine wpAnyP_runs 14 (some 45) rfl rfl (by kernel_rfl) (by rfl) (exec_fieldAddr rfl (u := .pointer (some ⟨d, 0, none⟩)) (v := .pointer (some ⟨d, 1, none⟩)) (w1 := w4) (by go_simp) (by rfl)) (fun h => absurd h (by omega)) ?_
    simp only [Act.put, List.setIfInBounds_toArray, List.set_cons_zero, List.set_cons_succ]
    have c4 := hB4.cell
    have f4 := hB4.frozen
    refine wpAnyP_skips 15 rfl rfl (by kernel_rfl) (by rfl) (exec_store rfl (u := .pointer (some ⟨d, 1, none⟩)) (z := .slice (some ⟨g', 0, none⟩) (D.loose.length + 1) cap') (w1 := w4.setCell ⟨d, 1, none⟩ (.slice (some ⟨g', 0, none⟩) (D.loose.length + 1) cap')) (by go_simp) (by rfl) (by rfl)) (fun h => absurd h (by omega)) ?_
    refine wpAnyP_done (by kernel_rfl) ?_ _
    clear c4 f4 hB4 hB3 hH hB2
    go_wp2_with fail
    go_ret
    exact ⟨rfl, hI5, hK.trans hK5⟩
end Go.Proofs.Ytkbjmgenceghlaa
