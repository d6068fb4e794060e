/- What 'Read' answers of a disk with nothing loose. -/
import Derived.Test.YtkbjmgenceghlaaD8
import Derived.RangeFuncNested
import Derived.RangeFuncBound
import Derived.RangeFuncCalls
import Derived.RangeFuncLeaves
import Derived.BigQuiet
import Derived.Deep.QuietTactic
namespace Go.Proofs.Ytkbjmgenceghlaa
open Go.RowKit
/-- a range over a function that calls back not once -/
theorem wp_range_none {P : Program} {g : Operand} {ps : Array Tmp} {assign body : Code} {Q : Exit → Act → World → Prop} {a : Act} {w : World} {gf : Nat} {lb : Array Value}
    (hg : a.eval g = .func (.func gf) #[] lb) (eg : ∀ args w, (callFunc gf args).run P w = .ok (.enter gf args) w)
    (hc : ∀ l W, Below w.heap.size w W → Calls P gf (#[.func (.yield l) #[] #[]] ++ lb) W fun e W' => (∃ v, e = .returned v) ∧ W = W')
    (h : ∀ D W, w.heap.size ≤ D → Below w.heap.size w W → W.heap[D]? = some (.deferred (some [])) → Q .normal { a with defers := { target := .collected D, args := #[] } :: a.defers } W) :
    (Code.rangeFunc g ps assign body).wp P Q a w := by
  refine (wpIn_wide (n := 3)).1 ?_
  refine wpIn_rangeFunc_ownF (α := Empty) (encs := fun x => x.elim) (Kp := fun _ _ => True) (S := fun xs => xs = []) (Sp := fun _ => False) (N := 0) (w0 := w) rfl (by omega) hg trivial eg ?seq (fun _ _ => trivial) (fun _ _ _ _ _ _ _ _ => trivial) (Below.refl _ _) (fun x => x.elim)
    (fun _ W => Below w.heap.size w W) (fun _ _ _ => False) (ownFrom_below (Nat.le_refl _) (Nat.le_refl _)) (fun _ _ _ _ _ hs _ _ => hs) (Below.refl _ _) (fun x => x.elim) (fun _ x => x.elim) (fun _ _ x => x.elim) ?done (fun _ _ _ _ _ _ hh _ => hh.elim)
  case seq => exact fun l J Jx W hW _ _ _ h0 => callsIn_wide.2 ((hc l W hW).mono fun e W' ⟨he, hw⟩ => ⟨he, .inl ⟨[], rfl, hw ▸ h0⟩⟩)
  case done => exact fun D xs W hD _ hI hK => h D W hD hI hK
theorem calls_of_marks {P : Program} {f : FuncId} {fn : Func} {c : Code} {args : Array Value} {w : World} {R : Ending → World → Prop} (hf : P.funcs[f]? = some fn) (hb : fn.body = some c)
    (h : c.wp P (bodyPostM Fence.wide 3 P fn R) { tmps := args ++ Array.replicate (fn.ntmps - args.size) undef, defers := [] } w) : Calls P f args w R :=
  callsIn_wide.1 (callsIn_of_wp_marks hf hb trivial ((wpIn_wide (n := 3)).2 h) rfl)
theorem marks_ret {P : Program} {fn : Func} {R : Ending → World → Prop} {a : Act} {w : World} {v : Value} (hd : a.defers = []) (hr : (results fn a.tmps).run P w = .ok v w) (h : R (.returned v) w) : bodyPostM Fence.wide 3 P fn R .ret a w := by
  unfold bodyPostM
  simp only [hd]
  exact ⟨v, hr, h⟩
set_option maxRecDepth 100000 in
set_option maxHeartbeats 1000000 in
theorem backward_any (p : Option Addr) (n c : Nat) (w : World) :
    Calls Try.prog 56 #[.slice p n c] w fun e w' => e = .returned (.func (.func 62) #[] #[.pointer (some ⟨w.heap.size, 0, none⟩)]) ∧ w.alloc (.cells #[.slice p n c] 61) = w' := by
  go_enter Try.func56, Try.ntmps56
  go_wp2
  go_ret
  exact ⟨rfl, rfl⟩
set_option maxRecDepth 100000 in
set_option maxHeartbeats 1000000 in
theorem backward_none (y : Value) (p : Option Addr) (c B : Nat) (w : World) (hB : w.cell? ⟨B, 0, none⟩ = some (.slice p 0 c)) :
    Calls Try.prog 62 #[y, .pointer (some ⟨B, 0, none⟩)] w fun e w' => (∃ v, e = .returned v) ∧ w = w' := by
  go_enter Try.func62, Try.ntmps62
  go_wp2
  go_loop [3] (fun i => i = .int .i64 (-1)) (fun _ => 0)
  case atStart => rfl
  case round =>
    obtain rfl := hrel
    go_wp2
    go_end0
    exact ⟨⟨_, rfl⟩, rfl⟩
set_option maxRecDepth 100000 in
set_option maxHeartbeats 1000000 in
theorem read_down (k : Nat) (w : World) (base d : Nat) (D : Pm.Dk) (h : IsDisk w base d D) (h0 : D.fuse = 0) :
    Calls Try.prog 38 #[.pointer (some ⟨d, 0, none⟩), .int .i64 k] w fun e w' => e = .returned (.tuple #[.string ⟨#[]⟩, .int .i64 40]) ∧ Below w.heap.size w w' := by
  have HM : ∀ W, Below w.heap.size w W → Calls Try.prog 55 #[.pointer (some ⟨d, 0, none⟩)] W fun e w' => e = .returned (.int .i64 40) ∧ W = w' := fun W hW => by
    have := may_any W base d D (h.below hW)
    rwa [if_pos h0] at this
  replace HM := Lib.hid HM
  clear h h0
  refine calls_of_marks Try.func38 rfl ?_
  simp only [Try.ntmps38, List.size_toArray, List.length_cons, List.length_nil, Nat.reduceAdd, Nat.reduceSub, Array.replicate_succ, Array.replicate_zero, List.push_toArray, List.append_toArray, List.nil_append, List.cons_append]
  go_wp2_with fail
  refine (HM.out _ (ba (ba (ba (Below.refl _ _) _) _) _)).mono ?_
  rintro e w1 ⟨rfl, rfl⟩
  clear HM
  go_wp2_with fail
  refine marks_ret rfl (v := .tuple #[.string ⟨#[]⟩, .int .i64 40]) (by simp [results, Try.results38, go_sem]) ⟨rfl, ?_⟩
  exact ba (ba (ba (Below.refl _ _) _) _) _
theorem run_sector_string (w : World) (b o c : Nat) (s : List UInt8) (hr : w.rangeAt b o (secCells s)) (hs : s.length = 128) :
    (convert 69 9 (.slice (some ⟨b, o, none⟩) 128 c)).run Try.prog w = .ok (.string ⟨s.toArray⟩) w := by
  have h := run_convert_bytes_arg (P := Try.prog) w 69 5 Try.underlying69 Try.underlying5 b o 128 c (s.map fun x => (x.toNat : Int)) (by simp [hs]) (fun i hi => by
    have hi' : i < s.length := by omega
    rw [hr i (.int .u8 (s[i].toNat : Int)) (by simp [secCells, hi'])]
    simp [hi']) 9 Try.underlying9
  rw [h]
  have e : (s.map fun x => (x.toNat : Int)).map (fun x => UInt8.ofNat x.toNat) = s := by
    rw [List.map_map]
    conv => rhs; rw [← List.map_id s]
    apply List.map_congr_left
    intro x _
    simp
  unfold strOfNums
  rw [e]
set_option maxRecDepth 100000 in
set_option maxHeartbeats 1000000 in
theorem read_yes (k : Nat) (w : World) (base d : Nat) (D : Pm.Dk) (h : IsDisk w base d D) (h0 : D.fuse ≠ 0) (hl : D.loose = []) (hk : k < D.sure.length) :
    Calls Try.prog 38 #[.pointer (some ⟨d, 0, none⟩), .int .i64 k] w fun e w' => e = .returned (.tuple #[.string ⟨(D.sure[k]'hk).toArray⟩, .int .i64 0]) ∧ Below w.heap.size w w' := by
  have HM : ∀ W, Below w.heap.size w W → Calls Try.prog 55 #[.pointer (some ⟨d, 0, none⟩)] W fun e w' => e = .returned (.int .i64 0) ∧ W = w' := fun W hW => by
    have := may_any W base d D (h.below hW)
    rwa [if_neg h0] at this
  replace HM := Lib.hid HM
  obtain ⟨S, lv, hA⟩ := h.at_
  obtain ⟨p, c, rfl⟩ := hA.shape
  have hbd := h.ok.bound
  have hsec := h.ok.secs
  obtain ⟨s, hse⟩ : ∃ s, s = D.sure[k]'hk := ⟨_, rfl⟩
  have hs : s.length = 128 := by rw [hse]; exact hsec _ (List.getElem_mem hk)
  obtain ⟨cap, cur, e, hbS, hBS, h3, h4, h5, h6⟩ := owns_blk hA.sure (g := S) rfl
  injection e with _ _ e
  subst e
  have hrange := rows_range secCells (by omega) D.sure (fun x hx => by rw [secCells_len]; exact hsec x hx) hBS rfl h6 k hk
  rw [← hse] at hrange ⊢
  have hblk := hA.blk
  rw [hl] at hblk
  clear h h0 hA hse hBS h6 h5 h4 h3 hsec hbS hl
  obtain ⟨m, hm⟩ : ∃ m, m = D.sure.length := ⟨_, rfl⟩
  rw [← hm] at hblk hk hbd
  clear hm
  refine calls_of_marks Try.func38 rfl ?_
  simp only [Try.ntmps38, List.size_toArray, List.length_cons, List.length_nil, Nat.reduceAdd, Nat.reduceSub, Array.replicate_succ, Array.replicate_zero, List.push_toArray, List.append_toArray, List.nil_append, List.cons_append]
  go_wp2_with fail
  have hb3 : Below w.heap.size w (((w.alloc (.cells #[.int .i64 k] 3)).alloc (.cells #[.string ⟨#[]⟩] 9)).alloc (.cells #[.int .i64 0] 25)) := ba (ba (ba (Below.refl _ _) _) _) _
  have hK := ((Blk.new w 3 #[.int .i64 k]).alloc (.cells #[.string ⟨#[]⟩] 9)).alloc (.cells #[.int .i64 0] 25)
  have hR := (Blk.new (w.alloc (.cells #[.int .i64 k] 3)) 9 #[.string ⟨#[]⟩]).alloc (.cells #[.int .i64 0] 25)
  have hE := Blk.new ((w.alloc (.cells #[.int .i64 k] 3)).alloc (.cells #[.string ⟨#[]⟩] 9)) 25 #[.int .i64 0]
  have hblk1 := hblk.after hb3
  have hrange1 : (((w.alloc (.cells #[.int .i64 k] 3)).alloc (.cells #[.string ⟨#[]⟩] 9)).alloc (.cells #[.int .i64 0] 25)).rangeAt S (k * 128) (secCells s) := World.rangeAt_alloc (World.rangeAt_alloc (World.rangeAt_alloc hrange _) _) _
  refine (HM.out _ hb3).mono ?_
  rintro e w1 ⟨rfl, rfl⟩
  clear HM
  -- on
  have d1 : decide ((k : Int) < 0) = false := by simp
  have d2 : decide (m ≤ k) = false := by simp; omega
  have e0 : w.heap.size + 1 = (w.alloc (.cells #[.int .i64 k] 3)).heap.size := by simp
  have e1 : w.heap.size + 1 + 1 = ((w.alloc (.cells #[.int .i64 k] 3)).alloc (.cells #[.string ⟨#[]⟩] 9)).heap.size := by simp
  obtain ⟨bK, hbK⟩ : ∃ b, b = w.heap.size := ⟨_, rfl⟩
  obtain ⟨bR, hbR⟩ : ∃ b, b = w.heap.size + 1 := ⟨_, rfl⟩
  obtain ⟨bE, hbE⟩ : ∃ b, b = w.heap.size + 1 + 1 := ⟨_, rfl⟩
  have hK1 : Blk (((w.alloc (.cells #[.int .i64 k] 3)).alloc (.cells #[.string ⟨#[]⟩] 9)).alloc (.cells #[.int .i64 0] 25)) bK 3 #[.int .i64 k] := by rw [hbK]; exact hK
  have hR1 : Blk (((w.alloc (.cells #[.int .i64 k] 3)).alloc (.cells #[.string ⟨#[]⟩] 9)).alloc (.cells #[.int .i64 0] 25)) bR 9 #[.string ⟨#[]⟩] := by rw [hbR, e0]; exact hR
  have hE1 : Blk (((w.alloc (.cells #[.int .i64 k] 3)).alloc (.cells #[.string ⟨#[]⟩] 9)).alloc (.cells #[.int .i64 0] 25)) bE 25 #[.int .i64 0] := by rw [hbE, e1]; exact hE
  rw [← hbE, ← hbR, ← hbK]
  have hne1 : bR ≠ bE := by omega
  have hlK : w.heap.size ≤ bK := by omega
  have hlR : w.heap.size ≤ bR := by omega
  have hlE : w.heap.size ≤ bE := by omega
  clear hK hR hE e0 e1 hbK hbR hbE hblk hrange
  generalize ((w.alloc (.cells #[.int .i64 k] 3)).alloc (.cells #[.string ⟨#[]⟩] 9)).alloc (.cells #[.int .i64 0] 25) = w3 at *
  have cK := hK1.cell
  have cB := hblk1.cell
  go_wp2_with fail
  go_quiet (fail)
  have hb4 := bdn hb3 nq
  have hK4 := hK1.drewN nq
  have hR4 := hR1.drewN nq
  have hE4 := hE1.drewN nq
  have hblk4 := hblk1.drewN nq
  have hrange4 : (w3.drewN nq).rangeAt S (k * 128) (secCells s) := hrange1
  clear cK cB hb3 hK1 hR1 hE1 hblk1 hrange1
  generalize w3.drewN nq = w4 at *
  have cB := hblk4.cell
  go_wp2_with fail
  refine (backward_any _ _ _ _).mono ?_
  rintro e w1 ⟨rfl, rfl⟩
  clear cB
  go_wp2_with fail
  have hbox := Blk.new w4 61 #[.slice p 0 c]
  have hb5 := ba hb4 (.cells #[.slice p 0 c] 61)
  have hK5 := hK4.alloc (.cells #[.slice p 0 c] 61)
  have hR5 := hR4.alloc (.cells #[.slice p 0 c] 61)
  have hE5 := hE4.alloc (.cells #[.slice p 0 c] 61)
  have hblk5 := hblk4.alloc (.cells #[.slice p 0 c] 61)
  have hrange5 := World.rangeAt_alloc hrange4 (.cells #[.slice p 0 c] 61)
  clear hb4 hK4 hR4 hE4 hblk4 hrange4
  generalize w4.alloc (.cells #[.slice p 0 c] 61) = w5 at *
  generalize w4.heap.size = bB at *
  refine wp_range_none rfl (enters_of Try.func62 (by kernel_rfl) rfl) (lb := #[.pointer (some ⟨bB, 0, none⟩)]) (fun l W hW => backward_none _ p c bB W (by rw [(hbox.after hW).cell]; rfl)) ?_
  intro B W hB hW hdf
  have hb6 := bt hb5 hW
  have hK6 := hK5.after hW
  have hR6 := hR5.after hW
  have hE6 := hE5.after hW
  have hblk6 := hblk5.after hW
  have hrange6 : W.rangeAt S (k * 128) (secCells s) := fun j v hv => by
    have := hrange5 j v hv
    rw [hW.cell (p := ⟨S, k * 128 + j, none⟩) (World.block_lt_of_cell? _ ⟨S, k * 128 + j, none⟩ this)]
    exact this
  have hl5 := hb5.size
  have hR5l := hR5.lt
  have hE5l := hE5.lt
  clear hb5 hK5 hR5 hE5 hblk5 hrange5 hbox
  go_wp2_with fail
  have hS0 : W.cell? ⟨d, 0, none⟩ = some (.slice (some ⟨S, 0, none⟩) m m) := by rw [hblk6.cell]; rfl
  refine wp_region_noPanic ?_
  refine wp_region_phase 8 (fun w' => w'.cell? ⟨d, 0, none⟩ = some (.slice (some ⟨S, 0, none⟩) m m) ∧ Blk w' bK 3 #[.int .i64 k]) (by kernel_rfl) ⟨hS0, hK6.drew⟩ (fun hH => ?_)
  refine wpAnyP_take 0 (some 39) (v := ?_) rfl rfl (by kernel_rfl) (fun _ _ _ h => h) hH (Or.inl ⟨by rfl, ?_⟩) ?_
  rotate_left
  · (intro w_ hSw; go_simp; try with_reducible rfl)
  simp only [Act.put, List.setIfInBounds_toArray, List.set_cons_zero, List.set_cons_succ]
  refine wpAnyP_take 1 (some 40) (v := ?_) rfl rfl (by kernel_rfl) (fun _ _ _ h => h) hH (Or.inl ⟨by rfl, ?_⟩) ?_
  rotate_left
  · (intro w_ hSw; go_simp; try with_reducible rfl)
  simp only [Act.put, List.setIfInBounds_toArray, List.set_cons_zero, List.set_cons_succ]
  refine wpAnyP_take 2 (some 41) (v := ?_) rfl rfl (by kernel_rfl) (fun _ _ _ h => h) hH (Or.inl ⟨by rfl, ?_⟩) ?_
  rotate_left
  · (intro w_ hSw; go_simp; try with_reducible rfl)
  simp only [Act.put, List.setIfInBounds_toArray, List.set_cons_zero, List.set_cons_succ]
  refine wpAnyP_take 3 (some 42) (v := ?_) rfl rfl (by kernel_rfl) (fun _ _ _ h => h) hH (Or.inl ⟨by rfl, ?_⟩) ?_
  rotate_left
  · (intro w_ hSw; have cS := hSw.1; go_simp; try with_reducible rfl)
  simp only [Act.put, List.setIfInBounds_toArray, List.set_cons_zero, List.set_cons_succ]
  refine wpAnyP_take 4 (some 43) (v := ?_) rfl rfl (by kernel_rfl) (fun _ _ _ h => h) hH (Or.inl ⟨by rfl, ?_⟩) ?_
  rotate_left
  · (intro w_ hSw; have cS := hSw.2.cell; go_simp; try with_reducible rfl)
  simp only [Act.put, List.setIfInBounds_toArray, List.set_cons_zero, List.set_cons_succ]
  refine wpAnyP_take 5 (some 44) (v := ?_) rfl rfl (by kernel_rfl) (fun _ _ _ h => h) hH (Or.inl ⟨by rfl, ?_⟩) ?_
  rotate_left
  · (intro w_ hSw; go_simp; try with_reducible rfl)
  simp only [Act.put, List.setIfInBounds_toArray, List.set_cons_zero, List.set_cons_succ]
  refine wpAnyP_take 6 (some 45) (v := ?_) rfl rfl (by kernel_rfl) (fun _ _ _ h => h) hH (Or.inl ⟨by rfl, ?_⟩) ?_
  rotate_left
  · (intro w_ hSw; go_simp; try with_reducible rfl)
  simp only [Act.put, List.setIfInBounds_toArray, List.set_cons_zero, List.set_cons_succ]
  refine wpAnyP_runs 7 (some 46) rfl rfl (by kernel_rfl) (by rfl) (exec_convert rfl (run_sector_string _ S (k * 128) 128 s hrange6 hs) (by rfl)) (fun _ => hH) ?_
  simp only [Act.put, List.setIfInBounds_toArray, List.set_cons_zero, List.set_cons_succ]
  have cR := hR6.cell
  have fR := hR6.frozen
  have cE := hE6.cell
  have fE := hE6.frozen
  refine wpAnyP_skips 8 rfl rfl (by kernel_rfl) (by rfl) (exec_store rfl (u := .pointer (some ⟨bR, 0, none⟩)) (z := .string ⟨s.toArray⟩) (w1 := W.drew.setCell ⟨bR, 0, none⟩ (.string ⟨s.toArray⟩)) (by go_simp) (by rfl) (by rfl)) (fun h => absurd h (by omega)) ?_
  refine wpAnyP_skips 9 rfl rfl (by kernel_rfl) (by rfl) (exec_store rfl (u := .pointer (some ⟨bE, 0, none⟩)) (z := .int .i64 0) (w1 := (W.drew.setCell ⟨bR, 0, none⟩ (.string ⟨s.toArray⟩)).setCell ⟨bE, 0, none⟩ (.int .i64 0)) (by go_simp) (by rfl) (by rfl)) (fun h => absurd h (by omega)) ?_
  refine wpAnyP_done (by kernel_rfl) ?_ _
  refine NoPanic.normal ?_
  clear cR fR cE fE hH hS0
  go_wp2_with fail
  have hRf := (hR6.drew.set_ 0 (.string ⟨s.toArray⟩)).far (p := ⟨bE, 0, none⟩) hne1 (.int .i64 0)
  have hEf := ((hE6.drew.far (p := ⟨bR, 0, none⟩) (Ne.symm hne1) (.string ⟨s.toArray⟩)).set_ 0 (.int .i64 0))
  simp only [List.setIfInBounds_toArray, List.set_cons_zero] at hRf hEf
  have hbf := bs (bs (bd hb6) (p := ⟨bR, 0, none⟩) hlR (.string ⟨s.toArray⟩)) (p := ⟨bE, 0, none⟩) hlE (.int .i64 0)
  have hlRB : bR < w5.heap.size := hR5l
  have hlEB : bE < w5.heap.size := hE5l
  have hdf' : ((W.drew.setCell ⟨bR, 0, none⟩ (.string ⟨s.toArray⟩)).setCell ⟨bE, 0, none⟩ (.int .i64 0)).heap[B]? = some (.deferred (some [])) := by
    rw [Below.heap_setCell _ _ _ _ (by show B ≠ bE; omega), Below.heap_setCell _ _ _ _ (by show B ≠ bR; omega)]
    exact hdf
  refine ⟨by simp, .inl ⟨_, _, rfl, run_takeDeferred hdf', ?_⟩⟩
  have hc1 := cell_kept (hRf.cell 0) (grownBy_putObj' _ B (.deferred none)) (fun r e => by cases e; exact ⟨_, hdf', rfl⟩)
  have hc2 := cell_kept (hEf.cell 0) (grownBy_putObj' _ B (.deferred none)) (fun r e => by cases e; exact ⟨_, hdf', rfl⟩)
  generalize (W.drew.setCell ⟨bR, 0, none⟩ (.string ⟨s.toArray⟩)).setCell ⟨bE, 0, none⟩ (.int .i64 0) = Wf at *
  refine ⟨.tuple #[.string ⟨s.toArray⟩, .int .i64 0], ?_, rfl, hbf.grown (grownBy_putObj' _ B (.deferred none)) hbf.size (fun r e => by cases e; omega)⟩
  simp [results, Try.f38, go_sem, hc1, hc2]
end Go.Proofs.Ytkbjmgenceghlaa
