/- What 'Sync' answers: what is loose is sure. -/
import Derived.Test.YtkbjmgenceghlaaD6
namespace Go.Proofs.Ytkbjmgenceghlaa
open Go.RowKit
namespace Pm
/-- sectors behind writes -/
def puts (u : List (List UInt8)) (l : List (Nat × List UInt8)) : List (List UInt8) := l.foldl (fun u x => u.set x.1 x.2) u
theorem puts_length (l : List (Nat × List UInt8)) : ∀ u, (puts u l).length = u.length := by
  induction l with
  | nil => intro u; rfl
  | cons x l ih => intro u; unfold puts at *; rw [List.foldl_cons, ih]; simp
theorem puts_all (l : List (Nat × List UInt8)) : ∀ u, (∀ s ∈ u, s.length = 128) → (∀ x ∈ l, x.2.length = 128) → ∀ s ∈ puts u l, s.length = 128 := by
  induction l with
  | nil => intro u h _; exact h
  | cons x l ih =>
    intro u h hl
    unfold puts at *
    rw [List.foldl_cons]
    refine ih _ (fun s hs => ?_) (fun y hy => hl y (by simp [hy]))
    rcases List.mem_or_eq_of_mem_set hs with h2 | rfl
    · exact h s h2
    · exact hl x (by simp)
theorem puts_snoc (u : List (List UInt8)) (l : List (Nat × List UInt8)) (j : Nat) (hj : j < l.length) : puts u (l.take (j + 1)) = (puts u (l.take j)).set (l[j]'hj).1 (l[j]'hj).2 := by
  rw [List.take_succ_eq_append_getElem hj]
  unfold puts
  rw [List.foldl_append]
  rfl
theorem burn_lo {n : Int} (h : -1 ≤ n) : -1 ≤ burn n := by unfold burn; split <;> omega
theorem burn_hi {n : Int} (h : n ≤ 1000000) : burn n ≤ 1000000 := by unfold burn; split <;> omega
theorem DkOk.synced {D : Dk} (h : DkOk D) (n : Int) (h1 : -1 ≤ n) (h2 : n ≤ 1000000) : DkOk ⟨puts D.sure D.loose, [], n⟩ :=
  ⟨by simp only [puts_length]; exact h.many, by simp only [puts_length]; exact h.bound, puts_all _ _ h.secs (fun x hx => (h.at_ x hx).2), (fun x hx => by cases hx), by simp, h1, h2⟩
end Pm
theorem DiskAt.shape {w : World} {base d S : Nat} {lv : Value} {D : Pm.Dk} (h : DiskAt w base d S lv D) : ∃ p c, lv = .slice p D.loose.length c := by
  rcases h.loose.2 with ⟨h1, h2⟩ | ⟨g, cap, cur, h1, _⟩
  · rw [h2]; exact ⟨_, _, h1⟩
  · exact ⟨_, _, h1⟩
/-- no loose sectors any more -/
theorem DiskAt.clears {w : World} {base d S : Nat} {lv : Value} {D : Pm.Dk} (h : DiskAt w base d S lv D) :
    DiskAt (w.setCell ⟨d, 1, none⟩ (.slice none 0 0)) base d S (.slice none 0 0) { D with loose := [] } ∧ Kept base w (w.setCell ⟨d, 1, none⟩ (.slice none 0 0)) := by
  have ho := (Only.refl w d).set_ 1 (.slice none 0 0)
  refine ⟨⟨h.hd, ?_, h.sure.kept ho (.inr (owned_ne h.blk h.sure (by decide))), World.ownsRow_nil _ _ _ _⟩, kept_set h.blk rfl h.hd 1 _⟩
  have := h.blk.set_ 1 (.slice none 0 0)
  simpa only [List.setIfInBounds_toArray, List.set_cons_succ, List.set_cons_zero] using this
set_option maxRecDepth 100000 in
set_option maxHeartbeats 1000000 in
theorem sync_down (w : World) (base d : Nat) (D : Pm.Dk) (h : IsDisk w base d D) (h0 : D.fuse = 0) :
    Calls Try.prog 51 #[.pointer (some ⟨d, 0, none⟩)] w fun e w' => e = .returned (.int .i64 40) ∧ w = w' := by
  have HM := Lib.hid (may_any w base d D h)
  rw [if_pos h0] at HM
  clear h0 h
  go_enter Try.func51, Try.ntmps51
  go_wp2_with fail
  refine (HM.out).mono ?_
  rintro e w1 ⟨rfl, rfl⟩
  go_wp2_with fail
  go_ret
  exact ⟨rfl, rfl⟩
set_option maxRecDepth 100000 in
set_option maxHeartbeats 1000000 in
theorem sync_yes (w : World) (base d : Nat) (D : Pm.Dk) (h : IsDisk w base d D) (h0 : D.fuse ≠ 0) :
    Calls Try.prog 51 #[.pointer (some ⟨d, 0, none⟩)] w fun e w' => e = .returned (.int .i64 0) ∧ IsDisk w' base d ⟨Pm.puts D.sure D.loose, [], Pm.burn D.fuse⟩ ∧ Kept base w w' := by
  have HM := Lib.hid (may_any w base d D h)
  rw [if_neg h0] at HM
  have HB := Lib.hid (burns_any w base d D h)
  have ok := h.ok
  have hfew := ok.few
  clear h0 h
  go_enter Try.func51, Try.ntmps51
  go_wp2_with fail
  refine (HM.out).mono ?_
  rintro e w1 ⟨rfl, rfl⟩
  go_wp2_with fail
  refine (HB.out).mono ?_
  rintro e w1 ⟨rfl, hI, hK⟩
  clear HB HM
  obtain ⟨S, lv, hA⟩ := hI.at_
  clear hI
  obtain ⟨p, c, rfl⟩ := hA.shape
  obtain ⟨n, hn⟩ : ∃ n, n = D.loose.length := ⟨_, rfl⟩
  have cB := hA.blk.cell
  rw [← hn] at hfew
  simp only [← hn] at cB hA
  have HN := Lib.hid hn
  clear hn
  go_wp2_with fail
  clear cB
  go_loopw [18] (fun i wr => ∃ j : Nat, j ≤ n ∧ i = .int .i64 j ∧ DiskAt wr base d S (.slice p n c) ⟨Pm.puts D.sure (D.loose.take j), D.loose, Pm.burn D.fuse⟩ ∧ Kept base w wr) (fun i _ => n - (intOf i).toNat)
  case atStart => exact ⟨0, by omega, rfl, hA, hK⟩
  case round =>
    clear hA hK
    obtain ⟨j, hj, rfl, hA, hK⟩ := hrel
    by_cases hlt : j < n
    · have hjl : j < D.loose.length := by have := HN.out; omega
      obtain ⟨g, cap, e, hr⟩ := hA.load (fun x hx => (ok.at_ x hx).2) j hjl
      injection e with e1 e2 e3
      subst e1 e3
      clear e2
      have hx := ok.at_ _ (List.getElem_mem hjl)
      obtain ⟨x, hxx⟩ : ∃ x, x = D.loose[j]'hjl := ⟨_, rfl⟩
      simp only [← hxx] at hr hx
      have HX := Lib.hid hxx
      clear hxx
      obtain ⟨hth, hBx, hbx⟩ := boxed93 wr x hx.2
      have hi93 : (Try.prog.info? 93).map (·.size) = some (wrCells x).length := by rw [size93, wrCells_len hx.2]
      have h1x : (wrCells x).toArray.all (·.oneCell') = true := all_oneCell_toArray wrCells_one
      go_wp2_with (first | (refine wpList_load_mid rfl 93 (.tmp 20) rfl g (j * 129) rfl (wrCells x) _ hr Try.underlying93 rfl hi93 ?_) | (refine wpList_store_mid rfl 93 (.tmp 5) (.tmp 21) rfl _ 0 (wrCells x).toArray rfl rfl hth hi93 h1x ?_))
      -- region 8
      have hAb := hA.below hbx
      obtain ⟨bx, hbx0⟩ : ∃ bx, bx = wr.heap.size := ⟨_, rfl⟩
      rw [← hbx0] at hBx
      have hKb : Kept base w ((wr.alloc (.cells Try.zeroCells93 93)).setCells wr.heap.size 0 (wrCells x)) := hK.trans (Kept.below hbx)
      rw [← hbx0] at hAb hKb ⊢
      clear hth hbx hr hbx0
      generalize (wr.alloc (.cells Try.zeroCells93 93)).setCells bx 0 (wrCells x) = wb at *
      have hc0 : ∀ w : World, Blk w bx 93 (wrCells x).toArray → w.cell? ⟨bx, 0, none⟩ = some (.int .i64 x.1) := fun w h => by rw [h.cell]; rfl
      have hc1 : ∀ w : World, Blk w bx 93 (wrCells x).toArray → w.rangeAt bx 1 (secCells x.2) := fun w h => h.range 1 _ (fun j _ => by rw [Nat.add_comm]; simp [wrCells])
      have hi91 : (Try.prog.info? 91).map (·.size) = some (secCells x.2).length := by rw [size91, secCells_len, hx.2]
      have h91 : (secCells x.2).toArray.all (·.oneCell') = true := all_oneCell_toArray (fun v hv => secCells_one hv)
      have hpl := Pm.puts_length (D.loose.take j) D.sure
      have hxl : x.1 < (Pm.puts D.sure (D.loose.take j)).length := by rw [hpl]; exact hx.1
      obtain ⟨hst, hA2, hK2⟩ := DiskAt.stored (w := wb.drew) (hAb.below (bd (Below.refl _ _))) (Pm.puts_all _ _ ok.secs (fun y hy => (ok.at_ y (List.mem_of_mem_take hy)).2)) x.1 hxl x.2 hx.2
      have hst : wb.drew.there S (x.1 * 128) (secCells x.2).toArray.size := by simpa [secCells_len, hx.2] using hst
      have hfin : (Pm.puts D.sure (D.loose.take j)).set x.1 x.2 = Pm.puts D.sure (D.loose.take (j + 1)) := by rw [HX.out, Pm.puts_snoc _ _ _ hjl]
      simp only [hfin] at hA2
      clear hfin
      obtain ⟨m, hm⟩ : ∃ m, m = (Pm.puts D.sure (D.loose.take j)).length := ⟨_, rfl⟩
      have hm2 : x.1 < m := by omega
      have hS0 : DiskAt wb base d S (.slice (some ⟨g, 0, none⟩) n c) ⟨Pm.puts D.sure (D.loose.take j), D.loose, Pm.burn D.fuse⟩ := hAb
      have hblk : ∀ w, DiskAt w base d S (.slice (some ⟨g, 0, none⟩) n c) ⟨Pm.puts D.sure (D.loose.take j), D.loose, Pm.burn D.fuse⟩ → w.cell? ⟨d, 0, none⟩ = some (.slice (some ⟨S, 0, none⟩) m m) := fun w h => by rw [h.blk.cell, hm]; rfl
      clear hm hpl hxl
      refine wp_region_phase 8 (fun w' => w'.cell? ⟨d, 0, none⟩ = some (.slice (some ⟨S, 0, none⟩) m m) ∧ Blk w' bx 93 (wrCells x).toArray) (by kernel_rfl) ⟨hblk _ (hAb.below (bd (Below.refl _ _))), hBx.drew⟩ (fun hH => ?_)
      simp only [Act.put, List.setIfInBounds_toArray, List.set_cons_zero, List.set_cons_succ]
      refine wpAnyP_take 0 (some 22) (v := ?_) rfl rfl (by kernel_rfl) (fun _ _ _ h => h) hH (Or.inl ⟨by rfl, ?_⟩) ?_
      rotate_left
      · (intro w_ hSw; go_simp; try with_reducible rfl)
      simp only [Act.put, List.setIfInBounds_toArray, List.set_cons_zero, List.set_cons_succ]
      refine wpAnyP_take 1 (some 23) (v := ?_) rfl rfl (by kernel_rfl) (fun _ _ _ h => h) hH (Or.inl ⟨by rfl, ?_⟩) ?_
      rotate_left
      · (intro w_ hSw; go_simp; try with_reducible rfl)
      simp only [Act.put, List.setIfInBounds_toArray, List.set_cons_zero, List.set_cons_succ]
      refine wpAnyP_take 2 (some 24) (v := ?_) rfl rfl (by kernel_rfl) (fun _ _ _ h => h) hH (Or.inl ⟨by rfl, ?_⟩) ?_
      rotate_left
      · (intro w_ hSw; go_simp; try with_reducible rfl)
      simp only [Act.put, List.setIfInBounds_toArray, List.set_cons_zero, List.set_cons_succ]
      refine wpAnyP_take 3 (some 25) (v := ?_) rfl rfl (by kernel_rfl) (fun _ _ _ h => h) hH (Or.inl ⟨by rfl, ?_⟩) ?_
      rotate_left
      · (intro w_ hSw; have cS := hSw.1; go_simp; try with_reducible rfl)
      simp only [Act.put, List.setIfInBounds_toArray, List.set_cons_zero, List.set_cons_succ]
      refine wpAnyP_take 4 (some 26) (v := ?_) rfl rfl (by kernel_rfl) (fun _ _ _ h => h) hH (Or.inl ⟨by rfl, ?_⟩) ?_
      rotate_left
      · (intro w_ hSw; go_simp; try with_reducible rfl)
      simp only [Act.put, List.setIfInBounds_toArray, List.set_cons_zero, List.set_cons_succ]
      refine wpAnyP_take 5 (some 27) (v := ?_) rfl rfl (by kernel_rfl) (fun _ _ _ h => h) hH (Or.inl ⟨by rfl, ?_⟩) ?_
      rotate_left
      · (intro w_ hSw; have cS := hc0 _ hSw.2; go_simp; try with_reducible rfl)
      simp only [Act.put, List.setIfInBounds_toArray, List.set_cons_zero, List.set_cons_succ]
      refine wpAnyP_take 6 (some 28) (v := ?_) rfl rfl (by kernel_rfl) (fun _ _ _ h => h) hH (Or.inl ⟨by rfl, ?_⟩) ?_
      rotate_left
      · (intro w_ hSw; go_simp; try with_reducible rfl)
      simp only [Act.put, List.setIfInBounds_toArray, List.set_cons_zero, List.set_cons_succ]
      refine wpAnyP_take 7 (some 29) rfl rfl (by kernel_rfl) (fun _ _ _ h => h) hH (yieldsIf_load_mid (by rfl) _ _ rfl bx 1 rfl (secCells x.2) _ (fun _ h => hc1 _ h.2) Try.underlying91 rfl hi91) ?_
      simp only [Act.put, List.setIfInBounds_toArray, List.set_cons_zero, List.set_cons_succ]
      refine wpAnyP_runs 8 (some 30) rfl rfl (by kernel_rfl) (by rfl) (exec_indexAddr rfl (u := .slice (some ⟨S, 0, none⟩) m m) (z := .int .i64 x.1) (v := .pointer (some ⟨S, x.1 * 128, none⟩)) (w1 := wb.drew) (by go_simp) (by rfl) (by rfl)) (fun h => absurd h (by omega)) ?_
      simp only [Act.put, List.setIfInBounds_toArray, List.set_cons_zero, List.set_cons_succ]
      refine wpAnyP_skips 9 rfl rfl (by kernel_rfl) (by rfl) (exec_store rfl (run_storeAt_mid wb.drew S (x.1 * 128) 91 (secCells x.2).toArray hst hi91 h91) (by rfl) (by rfl)) (fun h => absurd h (by omega)) ?_
      refine wpAnyP_done (by kernel_rfl) ?_ _
      go_wp2
      go_roundw
      case rel => exact ⟨j + 1, by omega, by go_num, hA2, (hKb.trans (Kept.below (bd (Below.refl _ _)))).trans hK2⟩
      case measure => simp [intOf]; omega
    · -- behind
      obtain rfl : j = n := by omega
      have hall : D.loose.take j = D.loose := by rw [HN.out]; exact List.take_length
      rw [hall] at hA
      obtain ⟨hA2, hK2⟩ := hA.clears
      have hfin := hA2.is (ok.synced (Pm.burn D.fuse) (Pm.burn_lo ok.fuseLo) (Pm.burn_hi ok.fuseHi))
      have cB := hA.blk.cell
      have fB := hA.blk.frozen
      clear hA hall hA2
      go_wp2
      go_ret
      exact ⟨rfl, hfin, hK.trans hK2⟩
end Go.Proofs.Ytkbjmgenceghlaa
