/- The calls of a disk, as function values: what each does. -/
import Derived.Test.YtkbjmgenceghlaaT2
namespace Go.Proofs.Ytkbjmgenceghlaa
open Go.RowKit
namespace Pm
/-- a call of a disk: a write of a sector, or a sync -/
inductive Cl where
  | wr (k : Nat) (s : List UInt8)
  | sync
def Dk.sync (D : Dk) : Dk := if D.fuse = 0 then D else ⟨puts D.sure D.loose, [], burn D.fuse⟩
def Dk.does (D : Dk) : Cl → Dk
  | .wr k s => D.write k s
  | .sync => D.sync
/-- may it be done of so many sectors? -/
def Cl.ok (m : Nat) : Cl → Prop
  | .wr k s => k < m ∧ s.length = 128
  | .sync => True
theorem Dk.wr_stop {D : Dk} (h : D.fuse = 0) (k : Nat) (s : List UInt8) : D.does (.wr k s) = D := by
  show D.write k s = D
  unfold Dk.write; rw [if_pos h]
theorem Dk.wr_go {D : Dk} (h : D.fuse ≠ 0) (k : Nat) (s : List UInt8) : D.does (.wr k s) = { D with loose := D.loose ++ [(k, s)], fuse := burn D.fuse } := by
  show D.write k s = _
  unfold Dk.write; rw [if_neg h]
theorem Dk.sync_stop {D : Dk} (h : D.fuse = 0) : D.does .sync = D := by
  show D.sync = D
  unfold Dk.sync; rw [if_pos h]
theorem Dk.sync_go {D : Dk} (h : D.fuse ≠ 0) : D.does .sync = ⟨puts D.sure D.loose, [], burn D.fuse⟩ := by
  show D.sync = _
  unfold Dk.sync; rw [if_neg h]
theorem Dk.does_length (D : Dk) (c : Cl) : (D.does c).sure.length = D.sure.length := by
  by_cases h : D.fuse = 0
  · cases c
    · rw [wr_stop h]
    · rw [sync_stop h]
  · cases c
    · rw [wr_go h]
    · rw [sync_go h]; exact puts_length _ _
theorem Dk.does_loose (D : Dk) (c : Cl) : (D.does c).loose.length ≤ D.loose.length + 1 := by
  by_cases h : D.fuse = 0
  · cases c
    · rw [wr_stop h]; omega
    · rw [sync_stop h]; omega
  · cases c
    · rw [wr_go h]; simp
    · rw [sync_go h]; simp
end Pm
theorem write_any (k : Nat) (s : List UInt8) (w : World) (base d : Nat) (D : Pm.Dk) (h : IsDisk w base d D) (hk : k < D.sure.length) (hs : s.length = 128) (hfew : D.loose.length < 1000000) :
    Calls Try.prog 50 #[.pointer (some ⟨d, 0, none⟩), .int .i64 k, .string ⟨s.toArray⟩] w fun e w' => e = .returned (.int .i64 (if D.fuse = 0 then 40 else 0)) ∧ IsDisk w' base d (D.does (.wr k s)) ∧ Kept base w w' := by
  by_cases h0 : D.fuse = 0
  · rw [if_pos h0, Pm.Dk.wr_stop h0]
    refine (write_down k s w base d D h h0).mono ?_
    rintro e w' ⟨rfl, rfl⟩
    exact ⟨rfl, h, Kept.refl _ _⟩
  · rw [if_neg h0, Pm.Dk.wr_go h0]
    exact write_yes k s w base d D h h0 hk hs hfew
theorem sync_any (w : World) (base d : Nat) (D : Pm.Dk) (h : IsDisk w base d D) :
    Calls Try.prog 51 #[.pointer (some ⟨d, 0, none⟩)] w fun e w' => e = .returned (.int .i64 (if D.fuse = 0 then 40 else 0)) ∧ IsDisk w' base d (D.does .sync) ∧ Kept base w w' := by
  by_cases h0 : D.fuse = 0
  · rw [if_pos h0, Pm.Dk.sync_stop h0]
    refine (sync_down w base d D h h0).mono ?_
    rintro e w' ⟨rfl, rfl⟩
    exact ⟨rfl, h, Kept.refl _ _⟩
  · rw [if_neg h0, Pm.Dk.sync_go h0]
    exact sync_yes w base d D h h0
theorem run_slice_sector (l : List UInt8) (k : Nat) (w : World) (hl : l.length = 512) (hk : k < 4) :
    (Instr.sliceAt 9 (.string ⟨l.toArray⟩) (some (.int .i64 ((k : Int) * 128))) (some (.int .i64 (((k : Int) + 1) * 128))) none).run Try.prog w = .ok (.string ⟨((l.drop (k * 128)).take 128).toArray⟩) w := by
  have e : (Instr.sliceAt 9 (.string ⟨l.toArray⟩) (some (.int .i64 ((k : Int) * 128))) (some (.int .i64 (((k : Int) + 1) * 128))) none).run Try.prog w = (Instr.slice 9 (.string ⟨l.toArray⟩) (some (.int .i64 ((k : Int) * 128))) (some (.int .i64 (((k : Int) + 1) * 128))) none).run Try.prog w := by
    simp [Instr.sliceAt, run_underlying Try.underlying9]
  rw [e]
  rw [run_slice_string w 9 _ _ _ _ _ Try.underlying9 (by omega) (by omega) (by simp [ByteArray.size, hl]; omega), ByteArray.extract_mk]
  have h1 : ((k : Int) * 128).toNat = k * 128 := by omega
  have h2 : (((k : Int) + 1) * 128).toNat = k * 128 + 128 := by omega
  rw [h1, h2, Nat.add_sub_cancel_left]
set_option maxRecDepth 100000 in
set_option maxHeartbeats 1000000 in
theorem closure52 (b1 b2 b3 k : Nat) (s : List UInt8) (w : World) (base d : Nat) (D : Pm.Dk) (h : IsDisk w base d D) (h1 : Blk w b1 24 #[.pointer (some ⟨d, 0, none⟩)]) (h2 : Blk w b2 3 #[.int .i64 k]) (h3 : Blk w b3 9 #[.string ⟨s.toArray⟩])
    (hk : k < D.sure.length) (hs : s.length = 128) (hfew : D.loose.length < 1000000) :
    Calls Try.prog 52 #[.pointer (some ⟨b1, 0, none⟩), .pointer (some ⟨b2, 0, none⟩), .pointer (some ⟨b3, 0, none⟩)] w fun e w' => e = .returned (.int .i64 (if D.fuse = 0 then 40 else 0)) ∧ IsDisk w' base d (D.does (.wr k s)) ∧ Kept base w w' := by
  have HW := Lib.hid (write_any k s w base d D h hk hs hfew)
  have c1 := h1.cell
  have c2 := h2.cell
  have c3 := h3.cell
  clear h hk hs
  obtain ⟨r, hr⟩ : ∃ r : Int, r = if D.fuse = 0 then 40 else 0 := ⟨_, rfl⟩
  rw [← hr] at HW ⊢
  clear hr
  go_enter Try.func52, Try.ntmps52
  go_wp2_with fail
  refine (HW.out).mono ?_
  rintro e w1 ⟨rfl, hI, hK⟩
  go_wp2_with fail
  go_ret
  exact ⟨rfl, hI, hK⟩
set_option maxRecDepth 100000 in
set_option maxHeartbeats 1000000 in
theorem closure49 (b1 b2 b3 b4 at_ k pg : Nat) (l : List UInt8) (w : World) (base d : Nat) (D : Pm.Dk) (h : IsDisk w base d D) (h1 : Blk w b1 24 #[.pointer (some ⟨d, 0, none⟩)]) (h2 : Blk w b2 3 #[.int .i64 at_]) (h3 : Blk w b3 47 #[.int .u32 pg, .string ⟨l.toArray⟩]) (h4 : Blk w b4 3 #[.int .i64 k])
    (ha : at_ < D.sure.length) (hl : l.length = 512) (hk : k < 4) (hfew : D.loose.length < 1000000) :
    Calls Try.prog 49 #[.pointer (some ⟨b1, 0, none⟩), .pointer (some ⟨b2, 0, none⟩), .pointer (some ⟨b3, 0, none⟩), .pointer (some ⟨b4, 0, none⟩)] w fun e w' => e = .returned (.int .i64 (if D.fuse = 0 then 40 else 0)) ∧ IsDisk w' base d (D.does (.wr at_ ((l.drop (k * 128)).take 128))) ∧ Kept base w w' := by
  have HW := Lib.hid (write_any at_ ((l.drop (k * 128)).take 128) w.drew base d D (h.below (bd (Below.refl _ _))) ha (by simp [hl]; omega) hfew)
  have hsl := fun W => run_slice_sector l k W hl hk
  have m1 : IntKind.i64.wrap ((k : Int) * 128) = (k : Int) * 128 := IntWalk.i64_in _ (by omega)
  have m2 : IntKind.i64.wrap ((k : Int) + 1) = (k : Int) + 1 := IntWalk.i64_in _ (by omega)
  have m3 : IntKind.i64.wrap (((k : Int) + 1) * 128) = ((k : Int) + 1) * 128 := IntWalk.i64_in _ (by omega)
  clear h hl ha
  obtain ⟨r, hr⟩ : ∃ r : Int, r = if D.fuse = 0 then 40 else 0 := ⟨_, rfl⟩
  rw [← hr] at HW ⊢
  clear hr
  go_enter Try.func49, Try.ntmps49
  go_wp2_with fail
  refine wp_region_phase 11 (fun w' => Blk w' b1 24 #[.pointer (some ⟨d, 0, none⟩)] ∧ Blk w' b2 3 #[.int .i64 at_] ∧ Blk w' b3 47 #[.int .u32 pg, .string ⟨l.toArray⟩] ∧ Blk w' b4 3 #[.int .i64 k]) (by kernel_rfl) ⟨h1.drew, h2.drew, h3.drew, h4.drew⟩ (fun hH => ?_)
  refine wpAnyP_take 0 (some 5) (v := ?_) rfl rfl (by kernel_rfl) (fun _ _ _ h => h) hH (Or.inl ⟨by rfl, ?_⟩) ?_
  rotate_left
  · (intro w_ hSw; obtain ⟨q1, q2, q3, q4⟩ := hSw; have c1 := q1.cell; have c2 := q2.cell; have c3 := q3.cell; have c4 := q4.cell; go_simp; try with_reducible rfl)
  simp only [Act.put, List.setIfInBounds_toArray, List.set_cons_zero, List.set_cons_succ]
  refine wpAnyP_take 1 (some 6) (v := ?_) rfl rfl (by kernel_rfl) (fun _ _ _ h => h) hH (Or.inl ⟨by rfl, ?_⟩) ?_
  rotate_left
  · (intro w_ hSw; obtain ⟨q1, q2, q3, q4⟩ := hSw; have c1 := q1.cell; have c2 := q2.cell; have c3 := q3.cell; have c4 := q4.cell; go_simp; try with_reducible rfl)
  simp only [Act.put, List.setIfInBounds_toArray, List.set_cons_zero, List.set_cons_succ]
  refine wpAnyP_take 2 (some 7) (v := ?_) rfl rfl (by kernel_rfl) (fun _ _ _ h => h) hH (Or.inl ⟨by rfl, ?_⟩) ?_
  rotate_left
  · (intro w_ hSw; go_simp; try with_reducible rfl)
  simp only [Act.put, List.setIfInBounds_toArray, List.set_cons_zero, List.set_cons_succ]
  refine wpAnyP_take 3 (some 8) (v := ?_) rfl rfl (by kernel_rfl) (fun _ _ _ h => h) hH (Or.inl ⟨by rfl, ?_⟩) ?_
  rotate_left
  · (intro w_ hSw; obtain ⟨q1, q2, q3, q4⟩ := hSw; have c1 := q1.cell; have c2 := q2.cell; have c3 := q3.cell; have c4 := q4.cell; go_simp; try with_reducible rfl)
  simp only [Act.put, List.setIfInBounds_toArray, List.set_cons_zero, List.set_cons_succ]
  refine wpAnyP_take 4 (some 9) (v := ?_) rfl rfl (by kernel_rfl) (fun _ _ _ h => h) hH (Or.inl ⟨by rfl, ?_⟩) ?_
  rotate_left
  · (intro w_ hSw; obtain ⟨q1, q2, q3, q4⟩ := hSw; have c1 := q1.cell; have c2 := q2.cell; have c3 := q3.cell; have c4 := q4.cell; go_simp; try with_reducible rfl)
  simp only [Act.put, List.setIfInBounds_toArray, List.set_cons_zero, List.set_cons_succ]
  refine wpAnyP_take 5 (some 10) (v := ?_) rfl rfl (by kernel_rfl) (fun _ _ _ h => h) hH (Or.inl ⟨by rfl, ?_⟩) ?_
  rotate_left
  · (intro w_ hSw; go_simp; try with_reducible rfl)
  simp only [Act.put, List.setIfInBounds_toArray, List.set_cons_zero, List.set_cons_succ]
  refine wpAnyP_take 6 (some 11) (v := ?_) rfl rfl (by kernel_rfl) (fun _ _ _ h => h) hH (Or.inl ⟨by rfl, ?_⟩) ?_
  rotate_left
  · (intro w_ hSw; obtain ⟨q1, q2, q3, q4⟩ := hSw; have c1 := q1.cell; have c2 := q2.cell; have c3 := q3.cell; have c4 := q4.cell; go_simp; try with_reducible rfl)
  simp only [Act.put, List.setIfInBounds_toArray, List.set_cons_zero, List.set_cons_succ]
  refine wpAnyP_take 7 (some 12) (v := ?_) rfl rfl (by kernel_rfl) (fun _ _ _ h => h) hH (Or.inl ⟨by rfl, ?_⟩) ?_
  rotate_left
  · (intro w_ hSw; go_simp; try with_reducible rfl)
  simp only [Act.put, List.setIfInBounds_toArray, List.set_cons_zero, List.set_cons_succ]
  refine wpAnyP_take 8 (some 13) (v := ?_) rfl rfl (by kernel_rfl) (fun _ _ _ h => h) hH (Or.inl ⟨by rfl, ?_⟩) ?_
  rotate_left
  · (intro w_ hSw; go_simp; try with_reducible rfl)
  simp only [Act.put, List.setIfInBounds_toArray, List.set_cons_zero, List.set_cons_succ]
  refine wpAnyP_take 9 (some 14) (v := ?_) rfl rfl (by kernel_rfl) (fun _ _ _ h => h) hH (Or.inl ⟨by rfl, ?_⟩) ?_
  rotate_left
  · (intro w_ hSw; go_simp; try with_reducible rfl)
  simp only [Act.put, List.setIfInBounds_toArray, List.set_cons_zero, List.set_cons_succ]
  refine wpAnyP_calls 10 (some 15) rfl rfl (by kernel_rfl) (by rfl) (exec_call rfl (by rfl) (by simp only [List.map_toArray, List.map_cons, List.map_nil]; rfl) (by rfl) (enters_of Try.func50 (by kernel_rfl) rfl)) (HW.out) ?_
  rintro e w1 ⟨rfl, hI, hK⟩
  refine ⟨_, rfl, fun _ => ⟨hK.blk h1.drew rfl, hK.blk h2.drew rfl, hK.blk h3.drew rfl, hK.blk h4.drew rfl⟩, ?_⟩
  simp only [Act.put, List.setIfInBounds_toArray, List.set_cons_zero, List.set_cons_succ]
  refine wpAnyP_runs 11 (some 4) rfl rfl (by kernel_rfl) (by rfl) (exec_move rfl (by rfl)) (fun h => absurd h (by omega)) ?_
  simp only [Act.put, List.setIfInBounds_toArray, List.set_cons_zero, List.set_cons_succ]
  refine wpAnyP_done (by kernel_rfl) ?_ _
  go_wp2_with fail
  go_ret
  exact ⟨rfl, hI, (Kept.below (bd (Below.refl _ _))).trans hK⟩
end Go.Proofs.Ytkbjmgenceghlaa
