/- What 'Crash' leaves: of what was loose, what is kept. -/
import Derived.Test.YtkbjmgenceghlaaD7
namespace Go.Proofs.Ytkbjmgenceghlaa
open Go.RowKit
namespace Pm
/-- of what is loose, what a crash keeps -/
def keepL (l : List (Nat × List UInt8)) (k : List Bool) : List (Nat × List UInt8) := (l.zip k).filterMap fun x => if x.2 then some x.1 else none
theorem keepL_mem {l : List (Nat × List UInt8)} {k : List Bool} {x : Nat × List UInt8} (h : x ∈ keepL l k) : x ∈ l := by
  unfold keepL at h
  obtain ⟨y, hy, e⟩ := List.mem_filterMap.1 h
  split at e
  · injection e with e
    subst e
    exact (List.of_mem_zip hy).1
  · cases e
theorem keepL_snoc (l : List (Nat × List UInt8)) (k : List Bool) (j : Nat) (hl : j < l.length) (hk : j < k.length) : keepL (l.take (j + 1)) (k.take (j + 1)) = keepL (l.take j) (k.take j) ++ (if k[j]'hk then [l[j]'hl] else []) := by
  unfold keepL
  rw [List.take_succ_eq_append_getElem hl, List.take_succ_eq_append_getElem hk, List.zip_append (by simp; omega), List.filterMap_append]
  congr 1
  cases h : k[j]'hk <;> simp [h]
theorem keepL_all (l : List (Nat × List UInt8)) (k : List Bool) (j : Nat) (h : l.length ≤ j ∨ k.length ≤ j) : keepL (l.take j) (k.take j) = keepL l k := by
  unfold keepL
  have e : (l.take j).zip (k.take j) = (l.zip k).take j := by simp only [List.zip]; rw [List.take_zipWith]
  rw [e, List.take_of_length_le (by simp; omega)]
theorem puts_app (u : List (List UInt8)) (a b : List (Nat × List UInt8)) : puts u (a ++ b) = puts (puts u a) b := by
  unfold puts; rw [List.foldl_append]
theorem DkOk.crashed {D : Dk} (h : DkOk D) (k : List Bool) : DkOk ⟨puts D.sure (keepL D.loose k), [], -1⟩ :=
  ⟨by simp only [puts_length]; exact h.many, by simp only [puts_length]; exact h.bound, puts_all _ _ h.secs (fun x hx => (h.at_ x (keepL_mem hx)).2), (fun x hx => by cases hx), by simp, by simp, by simp⟩
end Pm
/-- Booleans that came in -/
def BoolsAt (base : Nat) (w : World) (v : Value) (l : List Bool) : Prop := ∃ p c, v = .slice p l.length c ∧ (l = [] ∨ ∃ b o, b < base ∧ p = some ⟨b, o, none⟩ ∧ ∀ i (h : i < l.length), w.cell? ⟨b, o + i, none⟩ = some (.bool (l[i]'h)))
theorem BoolsAt.kept {base : Nat} {w w' : World} {v : Value} {l : List Bool} (h : BoolsAt base w v l) (hk : Kept base w w') : BoolsAt base w' v l := by
  obtain ⟨p, c, e, h | ⟨b, o, hb, hp, h⟩⟩ := h
  · exact ⟨p, c, e, .inl h⟩
  · refine ⟨p, c, e, .inr ⟨b, o, hb, hp, fun i hi => ?_⟩⟩
    have h2 := h i hi
    have hlt := World.block_lt_of_cell? w ⟨b, o + i, none⟩ h2
    rw [World.cell?_of_block (a := ⟨b, o + i, none⟩) (hk.block b hlt (.inl hb)), h2]
/-- the fuse is out, and nothing loose -/
theorem DiskAt.ended {w : World} {base d S : Nat} {lv : Value} {D : Pm.Dk} (h : DiskAt w base d S lv D) :
    DiskAt ((w.setCell ⟨d, 1, none⟩ (.slice none 0 0)).setCell ⟨d, 2, none⟩ (.int .i64 (-1))) base d S (.slice none 0 0) ⟨D.sure, [], -1⟩ ∧ Kept base w ((w.setCell ⟨d, 1, none⟩ (.slice none 0 0)).setCell ⟨d, 2, none⟩ (.int .i64 (-1))) := by
  obtain ⟨h1, k1⟩ := h.clears
  have ho := (Only.refl (w.setCell ⟨d, 1, none⟩ (.slice none 0 0)) d).set_ 2 (.int .i64 (-1))
  refine ⟨⟨h.hd, ?_, h1.sure.kept ho (.inr (owned_ne h1.blk h1.sure (by decide))), World.ownsRow_nil _ _ _ _⟩, k1.trans (kept_set h1.blk rfl h.hd 2 _)⟩
  have := h1.blk.set_ 2 (.int .i64 (-1))
  simpa only [List.setIfInBounds_toArray, List.set_cons_succ, List.set_cons_zero] using this
set_option maxRecDepth 100000 in
set_option maxHeartbeats 2000000 in
theorem crash_any (w : World) (base d : Nat) (D : Pm.Dk) (kv : Value) (keep : List Bool) (h : IsDisk w base d D) (hkv : BoolsAt base w kv keep) (hkl : keep.length ≤ 9223372036854775807) :
    Calls Try.prog 15 #[.pointer (some ⟨d, 0, none⟩), kv] w fun e w' => e = .returned (.int .i64 0) ∧ IsDisk w' base d ⟨Pm.puts D.sure (Pm.keepL D.loose keep), [], -1⟩ ∧ Kept base w w' := by
  have HN0 := Lib.hid (none_any w base d D h)
  have ok := h.ok
  have hfew := ok.few
  obtain ⟨S, lv, hA⟩ := h.at_
  clear h
  obtain ⟨p, c, rfl⟩ := hA.shape
  obtain ⟨n, hn⟩ : ∃ n, n = D.loose.length := ⟨_, rfl⟩
  have cB := hA.blk.cell
  rw [← hn] at hfew
  simp only [← hn] at cB hA
  have HN := Lib.hid hn
  clear hn
  have HKV := Lib.hid hkv
  obtain ⟨pk, ck, rfl, hkv⟩ := hkv
  obtain ⟨nk, hnk⟩ : ∃ nk, nk = keep.length := ⟨_, rfl⟩
  rw [← hnk] at HKV hkl ⊢
  have HNK := Lib.hid hnk
  clear hnk hkv
  go_enter Try.func15, Try.ntmps15
  go_wp2_with fail
  go_step3
  go_wp2_with fail
  refine (HN0.out).mono ?_
  rintro e w1 ⟨rfl, rfl⟩
  clear HN0
  go_wp2_with fail
  go_step3
  go_wp2_with fail
  clear cB
  go_loopw [14] (fun i wr => ∃ j : Nat, j ≤ n ∧ j ≤ nk ∧ i = .int .i64 j ∧ DiskAt wr base d S (.slice p n c) ⟨Pm.puts D.sure (Pm.keepL (D.loose.take j) (keep.take j)), D.loose, D.fuse⟩ ∧ Kept base w wr) (fun i _ => n - (intOf i).toNat)
  case atStart => exact ⟨0, by omega, by omega, rfl, by simpa [Pm.keepL, Pm.puts] using hA, Kept.refl _ _⟩
  case round =>
    clear hA
    obtain ⟨j, hj, hjk, rfl, hA, hK⟩ := hrel
    by_cases hlt : j < n
    · have hjl : j < D.loose.length := by have := HN.out; omega
      obtain ⟨g, cap, e, hr⟩ := hA.load (fun x hx => (ok.at_ x hx).2) j hjl
      injection e with e1 e2 e3
      subst e1 e3
      clear e2
      have hx := ok.at_ _ (List.getElem_mem hjl)
      obtain ⟨x, hxx⟩ : ∃ x, x = D.loose[j]'hjl := ⟨_, rfl⟩
      simp only [← hxx] at hr hx
      have HX := Lib.hid hxx
      clear hxx
      obtain ⟨hth, hBx, hbx⟩ := boxed93 wr x hx.2
      have hi93 : (Try.prog.info? 93).map (·.size) = some (wrCells x).length := by rw [size93, wrCells_len hx.2]
      have h1x : (wrCells x).toArray.all (·.oneCell') = true := all_oneCell_toArray wrCells_one
      by_cases hlk : j < nk
      · have hkeep : ∃ b o, pk = some ⟨b, o, none⟩ ∧ ((wr.alloc (.cells Try.zeroCells93 93)).setCells wr.heap.size 0 (wrCells x)).cell? ⟨b, o + j, none⟩ = some (.bool (keep[j]'(by have := HNK.out; omega))) := by
          obtain ⟨p', c', e, h | ⟨b, o, hb, hp, h⟩⟩ := HKV.out.kept (hK.trans (Kept.below hbx))
          · have := HNK.out; rw [h] at this; simp at this; omega
          · injection e with e1 _ _
            exact ⟨b, o, e1.trans hp, h j (by have := HNK.out; omega)⟩
        obtain ⟨kb, ko, rfl, hkc⟩ := hkeep
        obtain ⟨y, hy⟩ : ∃ y, y = keep[j]'(by have := HNK.out; omega) := ⟨_, rfl⟩
        rw [← hy] at hkc
        have HY := Lib.hid hy
        clear hy
        cases y
        · -- not kept
          have hfin : Pm.keepL (D.loose.take j) (keep.take j) = Pm.keepL (D.loose.take (j + 1)) (keep.take (j + 1)) := by
            rw [Pm.keepL_snoc _ _ _ hjl (by have := HNK.out; omega), ← HY.out]; simp
          have hAb := hA.below hbx
          rw [hfin] at hAb
          clear hfin
          go_wp2_with (first | (refine wpList_load_mid rfl 93 (.tmp 17) rfl g (j * 129) rfl (wrCells x) _ hr Try.underlying93 rfl hi93 ?_) | (refine wpList_store_mid rfl 93 (.tmp 6) (.tmp 18) rfl _ 0 (wrCells x).toArray rfl rfl hth hi93 h1x ?_))
          go_roundw
          case rel => exact ⟨j + 1, by omega, by omega, by go_num, hAb, hK.trans (Kept.below hbx)⟩
          case measure => simp [intOf]; omega
        · go_wp2_with (first | (refine wpList_load_mid rfl 93 (.tmp 17) rfl g (j * 129) rfl (wrCells x) _ hr Try.underlying93 rfl hi93 ?_) | (refine wpList_store_mid rfl 93 (.tmp 6) (.tmp 18) rfl _ 0 (wrCells x).toArray rfl rfl hth hi93 h1x ?_))
          -- region 8
          have hfin : (Pm.puts D.sure (Pm.keepL (D.loose.take j) (keep.take j))).set x.1 x.2 = Pm.puts D.sure (Pm.keepL (D.loose.take (j + 1)) (keep.take (j + 1))) := by
            rw [Pm.keepL_snoc _ _ _ hjl (by have := HNK.out; omega), ← HY.out, Pm.puts_app, HX.out]; rfl
          have hAb := hA.below hbx
          obtain ⟨bx, hbx0⟩ : ∃ bx, bx = wr.heap.size := ⟨_, rfl⟩
          rw [← hbx0] at hBx
          have hKb : Kept base w ((wr.alloc (.cells Try.zeroCells93 93)).setCells wr.heap.size 0 (wrCells x)) := hK.trans (Kept.below hbx)
          rw [← hbx0] at hAb hKb ⊢
          clear hth hbx hr hbx0 hkc
          generalize (wr.alloc (.cells Try.zeroCells93 93)).setCells bx 0 (wrCells x) = wb at *
          have hc0 : ∀ w : World, Blk w bx 93 (wrCells x).toArray → w.cell? ⟨bx, 0, none⟩ = some (.int .i64 x.1) := fun w h => by rw [h.cell]; rfl
          have hc1 : ∀ w : World, Blk w bx 93 (wrCells x).toArray → w.rangeAt bx 1 (secCells x.2) := fun w h => h.range 1 _ (fun j _ => by rw [Nat.add_comm]; simp [wrCells])
          have hi91 : (Try.prog.info? 91).map (·.size) = some (secCells x.2).length := by rw [size91, secCells_len, hx.2]
          have h91 : (secCells x.2).toArray.all (·.oneCell') = true := all_oneCell_toArray (fun v hv => secCells_one hv)
          obtain ⟨u, hu⟩ : ∃ u, u = Pm.puts D.sure (Pm.keepL (D.loose.take j) (keep.take j)) := ⟨_, rfl⟩
          have hpl : u.length = D.sure.length := by rw [hu, Pm.puts_length]
          have hua : ∀ s ∈ u, s.length = 128 := by rw [hu]; exact Pm.puts_all _ _ ok.secs (fun y hy => (ok.at_ y (List.mem_of_mem_take (Pm.keepL_mem hy))).2)
          rw [← hu] at hfin hAb
          clear hu
          have hxl : x.1 < u.length := by rw [hpl]; exact hx.1
          obtain ⟨hst, hA2, hK2⟩ := DiskAt.stored (w := wb.drew) (hAb.below (bd (Below.refl _ _))) hua x.1 hxl x.2 hx.2
          have hst : wb.drew.there S (x.1 * 128) (secCells x.2).toArray.size := by simpa [secCells_len, hx.2] using hst
          simp only [hfin] at hA2
          clear hfin
          obtain ⟨m, hm⟩ : ∃ m, m = u.length := ⟨_, rfl⟩
          have hm2 : x.1 < m := by omega
          have hblk : ∀ w, DiskAt w base d S (.slice (some ⟨g, 0, none⟩) n c) ⟨u, D.loose, D.fuse⟩ → w.cell? ⟨d, 0, none⟩ = some (.slice (some ⟨S, 0, none⟩) m m) := fun w h => by rw [h.blk.cell, hm]; rfl
          clear hm hpl hxl
          refine wp_region_phase 8 (fun w' => w'.cell? ⟨d, 0, none⟩ = some (.slice (some ⟨S, 0, none⟩) m m) ∧ Blk w' bx 93 (wrCells x).toArray) (by kernel_rfl) ⟨hblk _ (hAb.below (bd (Below.refl _ _))), hBx.drew⟩ (fun hH => ?_)
          try simp only [Act.put, List.setIfInBounds_toArray, List.set_cons_zero, List.set_cons_succ]
          refine wpAnyP_take 0 (some 30) (v := ?_) rfl rfl (by kernel_rfl) (fun _ _ _ h => h) hH (Or.inl ⟨by rfl, ?_⟩) ?_
          rotate_left
          · (intro w_ hSw; go_simp; try with_reducible rfl)
          simp only [Act.put, List.setIfInBounds_toArray, List.set_cons_zero, List.set_cons_succ]
          refine wpAnyP_take 1 (some 31) (v := ?_) rfl rfl (by kernel_rfl) (fun _ _ _ h => h) hH (Or.inl ⟨by rfl, ?_⟩) ?_
          rotate_left
          · (intro w_ hSw; go_simp; try with_reducible rfl)
          simp only [Act.put, List.setIfInBounds_toArray, List.set_cons_zero, List.set_cons_succ]
          refine wpAnyP_take 2 (some 32) (v := ?_) rfl rfl (by kernel_rfl) (fun _ _ _ h => h) hH (Or.inl ⟨by rfl, ?_⟩) ?_
          rotate_left
          · (intro w_ hSw; go_simp; try with_reducible rfl)
          simp only [Act.put, List.setIfInBounds_toArray, List.set_cons_zero, List.set_cons_succ]
          refine wpAnyP_take 3 (some 33) (v := ?_) rfl rfl (by kernel_rfl) (fun _ _ _ h => h) hH (Or.inl ⟨by rfl, ?_⟩) ?_
          rotate_left
          · (intro w_ hSw; have cS := hSw.1; go_simp; try with_reducible rfl)
          simp only [Act.put, List.setIfInBounds_toArray, List.set_cons_zero, List.set_cons_succ]
          refine wpAnyP_take 4 (some 34) (v := ?_) rfl rfl (by kernel_rfl) (fun _ _ _ h => h) hH (Or.inl ⟨by rfl, ?_⟩) ?_
          rotate_left
          · (intro w_ hSw; go_simp; try with_reducible rfl)
          simp only [Act.put, List.setIfInBounds_toArray, List.set_cons_zero, List.set_cons_succ]
          refine wpAnyP_take 5 (some 35) (v := ?_) rfl rfl (by kernel_rfl) (fun _ _ _ h => h) hH (Or.inl ⟨by rfl, ?_⟩) ?_
          rotate_left
          · (intro w_ hSw; have cS := hc0 _ hSw.2; go_simp; try with_reducible rfl)
          simp only [Act.put, List.setIfInBounds_toArray, List.set_cons_zero, List.set_cons_succ]
          refine wpAnyP_take 6 (some 36) (v := ?_) rfl rfl (by kernel_rfl) (fun _ _ _ h => h) hH (Or.inl ⟨by rfl, ?_⟩) ?_
          rotate_left
          · (intro w_ hSw; go_simp; try with_reducible rfl)
          simp only [Act.put, List.setIfInBounds_toArray, List.set_cons_zero, List.set_cons_succ]
          refine wpAnyP_take 7 (some 37) rfl rfl (by kernel_rfl) (fun _ _ _ h => h) hH (yieldsIf_load_mid (by rfl) _ _ rfl bx 1 rfl (secCells x.2) _ (fun _ h => hc1 _ h.2) Try.underlying91 rfl hi91) ?_
          simp only [Act.put, List.setIfInBounds_toArray, List.set_cons_zero, List.set_cons_succ]
          refine wpAnyP_runs 8 (some 38) rfl rfl (by kernel_rfl) (by rfl) (exec_indexAddr rfl (u := .slice (some ⟨S, 0, none⟩) m m) (z := .int .i64 x.1) (v := .pointer (some ⟨S, x.1 * 128, none⟩)) (w1 := wb.drew) (by go_simp) (by rfl) (by rfl)) (fun h => absurd h (by omega)) ?_
          simp only [Act.put, List.setIfInBounds_toArray, List.set_cons_zero, List.set_cons_succ]
          refine wpAnyP_skips 9 rfl rfl (by kernel_rfl) (by rfl) (exec_store rfl (run_storeAt_mid wb.drew S (x.1 * 128) 91 (secCells x.2).toArray hst hi91 h91) (by rfl) (by rfl)) (fun h => absurd h (by omega)) ?_
          refine wpAnyP_done (by kernel_rfl) ?_ _
          go_wp2
          go_roundw
          case rel => exact ⟨j + 1, by omega, by omega, by go_num, hA2, (hKb.trans (Kept.below (bd (Below.refl _ _)))).trans hK2⟩
          case measure => simp [intOf]; omega
      · obtain rfl : j = nk := by omega
        have hAb := hA.below hbx
        have hfin : Pm.keepL (D.loose.take j) (keep.take j) = Pm.keepL D.loose keep := Pm.keepL_all _ _ _ (.inr (by have := HNK.out; omega))
        rw [hfin] at hAb
        clear hfin
        obtain ⟨hE, hKe⟩ := hAb.ended
        have hF := Lib.hid (hE.is (ok.crashed keep))
        have cB := hAb.blk.cell
        have fB := hAb.blk.frozen
        have hKf := (hK.trans (Kept.below hbx)).trans hKe
        clear hE hKe hAb hA
        go_wp2_with (first | (refine wpList_load_mid rfl 93 (.tmp 17) rfl g (j * 129) rfl (wrCells x) _ hr Try.underlying93 rfl hi93 ?_) | (refine wpList_store_mid rfl 93 (.tmp 6) (.tmp 18) rfl _ 0 (wrCells x).toArray rfl rfl hth hi93 h1x ?_))
        go_ret
        exact ⟨rfl, hF.out, hKf⟩
    · obtain rfl : j = n := by omega
      have hfin : Pm.keepL (D.loose.take j) (keep.take j) = Pm.keepL D.loose keep := Pm.keepL_all _ _ _ (.inl (by have := HN.out; omega))
      rw [hfin] at hA
      clear hfin
      obtain ⟨hE, hKe⟩ := hA.ended
      have hF := Lib.hid (hE.is (ok.crashed keep))
      have cB := hA.blk.cell
      have fB := hA.blk.frozen
      have hKf := hK.trans hKe
      clear hE hKe hA
      go_wp2
      go_ret
      exact ⟨rfl, hF.out, hKf⟩
end Go.Proofs.Ytkbjmgenceghlaa
