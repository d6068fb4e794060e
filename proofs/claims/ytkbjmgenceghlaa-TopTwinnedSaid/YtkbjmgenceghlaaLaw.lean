/- pentimentotop.TopTwinned: whatever acts and whatever bools come in, the law returns true, and what came in reads as it did. Proved of the given row, with no condition of its own. -/
import Derived.Test.YtkbjmgenceghlaaRows
import Derived.Test.YtkbjmgenceghlaaV15
import Derived.ChangeSame
import Derived.JoinedOf
import Derived.JoinedAt
import Derived.RowKit3
import Derived.Below
import Derived.Carry
import Derived.ProofKit
import Derived.OpenShut
import Derived.Deep.Fields
import Derived.Deep.Slices
import Derived.Deep.Grids
import Derived.Laws.IdiomArrays
import Derived.ChangeArms
import Derived.Lib.SmallJoins
namespace Go.Proofs.Ytkbjmgenceghlaa
open Go.ChangeShapes Go.WideShapes Go.ChangeAt Go.RowKit Go.Deep Go.Joins
/-- the row's end where it is asked of nothing that the call made: new blocks alone have come -/
theorem ends {H : Type} {enc : TypeId × Value → H} {P : Program} {f : Func} {s : ChangeSpec} {W W' : World} {args : Array Value} {v : Value} {ds gs : List (DataW H)} {before : List MemPlace}
    (hW : DataW.Whole enc P f.params.toList s.vars false W args.toList ds gs before) (hb : Below W.heap.size W W')
    (hr : ∀ (b : Nat) (sp : Nat → Bool) (hd : Bool), DataW.TrodAll enc P W' b sp hd f.resultTypes.toList (v.resultList f.resultTypes.size) (s.fn H (ds ++ gs)).results [])
    (ha : DataW.TrodAll enc P W' 0 (fun b => decide (b < W.heap.size)) true f.params.toList args.toList (s.fn H (ds ++ gs)).args before)
    (hv : ∀ sp : Nat → Bool, DataW.TrodVars enc P W' sp s.vars (s.fn H (ds ++ gs)).vars []) :
    s.post enc P f false true false false W args v W' :=
  ⟨ds, gs, before, [], before, [], hW, hr _ _ _, ha, hv _, World.keptBut_mono (fun p hp => ⟨hp, Or.inr (Or.inl hp)⟩) (hb.frame (· ∈ before)), fun h => by cases h⟩
theorem own : ownKnob Try.prog.godebug = none := by kernel_rfl
theorem laidOut : laidOutB Try.prog = true := by kernel_rfl
theorem cells40 : Try.prog.cellsOf 40 = 5 := by kernel_rfl
theorem cells5 : Try.prog.cellsOf 5 = 1 := by kernel_rfl
theorem cells4 : Try.prog.cellsOf 4 = 1 := by kernel_rfl
theorem nat_u8 {a : Int} (h : (Lit.int .u8 a).wf = true) : ∃ n : Nat, a = n ∧ n ≤ 255 := by
  have hx : 0 ≤ a ∧ a ≤ 255 := by simpa [Lit.wf, IntKind.min, IntKind.max, IntKind.signed, IntKind.bits] using h
  exact ⟨a.toNat, by omega, by omega⟩
theorem plain_addr {W : World} {a : Addr} {v : Value} (h : W.cell? a = some v) : a = ⟨a.block, a.off, none⟩ := by
  obtain ⟨b, o, s⟩ := a
  unfold World.cell? at h
  split at h
  · cases s with
    | none => rfl
    | some q => simp at h
  · cases h
theorem list_five {α : Type} (l : List α) (h : l.length = 5) : ∃ a b c d e, l = [a, b, c, d, e] := by
  match l, h with
  | [a, b, c, d, e], _ => exact ⟨a, b, c, d, e, rfl⟩
section
variable {H : Type} {enc : TypeId × Value → H} {W : World}
theorem act_cells {n : Nat} {cs : List Value} {x : DataW H × List MemPlace} (hl : cs.length = 5) (h : DataW.trod enc Try.prog W 0 (fun _ => true) true n 40 cs = some x) : ∀ j, j < 5 → ∃ z : Nat, cs[j]? = some (.int .u8 z) ∧ z ≤ 255 := by
  obtain ⟨xs, k, hk, hxy, _, hxl, hf⟩ := DataW.trod_struct Try.underlying40 h
  obtain ⟨v0, v1, v2, v3, v4, rfl⟩ := list_five cs hl
  obtain ⟨y0, y1, y2, y3, y4, rfl⟩ := list_five xs hxl
  have g0 := hf 0 _ rfl
  have g1 := hf 1 _ rfl
  have g2 := hf 2 _ rfl
  have g3 := hf 3 _ rfl
  have g4 := hf 4 _ rfl
  simp [cells5] at g0 g1 g2 g3 g4
  obtain ⟨z0, e0, _, w0⟩ := DataW.trod_int Try.underlying5 g0
  obtain ⟨z1, e1, _, w1⟩ := DataW.trod_int Try.underlying5 g1
  obtain ⟨z2, e2, _, w2⟩ := DataW.trod_int Try.underlying5 g2
  obtain ⟨z3, e3, _, w3⟩ := DataW.trod_int Try.underlying5 g3
  obtain ⟨z4, e4, _, w4⟩ := DataW.trod_int Try.underlying5 g4
  simp only [List.cons.injEq, and_true] at e0 e1 e2 e3 e4
  subst e0 e1 e2 e3 e4
  obtain ⟨m0, rfl, b0⟩ := nat_u8 w0
  obtain ⟨m1, rfl, b1⟩ := nat_u8 w1
  obtain ⟨m2, rfl, b2⟩ := nat_u8 w2
  obtain ⟨m3, rfl, b3⟩ := nat_u8 w3
  obtain ⟨m4, rfl, b4⟩ := nat_u8 w4
  intro j hj
  rcases (show j = 0 ∨ j = 1 ∨ j = 2 ∨ j = 3 ∨ j = 4 by omega) with rfl | rfl | rfl | rfl | rfl
  · exact ⟨m0, rfl, b0⟩
  · exact ⟨m1, rfl, b1⟩
  · exact ⟨m2, rfl, b2⟩
  · exact ⟨m3, rfl, b3⟩
  · exact ⟨m4, rfl, b4⟩
theorem acts_open {a0 : Option Addr} {an ac : Nat} {d : DataW H} {p : List MemPlace} (h : DataW.Trod enc Try.prog W 0 (fun _ => true) true 22 (.slice a0 an ac) d p) : ∃ x, ActsAt W.heap.size W a0 an x ∧ an ≤ ac ∧ ac ≤ 9223372036854775807 := by
  obtain ⟨fuel, hf⟩ := h
  rcases open_slice Try.underlying22 hf with ⟨hcs, _⟩ | ⟨a, len, cap, m, n, D, Pl, hcs, _, hl, hm, hmm, _, hx⟩
  · simp [Value.cells] at hcs
    obtain ⟨rfl, rfl, rfl⟩ := hcs
    exact ⟨fun _ _ => 0, .inl rfl, Nat.le_refl _, by omega⟩
  · simp [Value.cells] at hcs
    obtain ⟨rfl, rfl, rfl⟩ := hcs
    simp only [if_true] at hmm
    subst hmm
    have hm63 : m ≤ 9223372036854775807 := by unfold maxLen at hm; exact hm
    have each : ∀ i j, i < m → j < 5 → ∃ z : Nat, W.cell? (a.add (i * 5 + j)) = some (.int .u8 z) ∧ z ≤ 255 := fun i j hi hj => by
      obtain ⟨cs', h1, h2⟩ := hx i hi
      rw [cells40] at h1
      obtain ⟨_, hlen, hcell⟩ := World.cells?_some h1
      obtain ⟨z, hz, hz2⟩ := act_cells hlen h2 j hj
      have e := hcell j hj
      rw [add_add] at e
      exact ⟨z, e.trans hz, hz2⟩
    by_cases h0 : an = 0
    · exact ⟨fun _ _ => 0, .inl h0, hl, hm63⟩
    · obtain ⟨z, hz, _⟩ := each 0 0 (by omega) (by omega)
      have hpl : a = ⟨a.block, a.off, none⟩ := plain_addr (a := a) (by simpa [Addr.add] using hz)
      have hlt : a.block < W.heap.size := World.block_lt_of_cell? W a (by simpa [Addr.add] using hz)
      have ch : ∀ i j, ∃ z : Nat, i < m → j < 5 → W.cell? (a.add (i * 5 + j)) = some (.int .u8 z) ∧ z ≤ 255 := fun i j => by
        by_cases hij : i < m ∧ j < 5
        · obtain ⟨z, hz⟩ := each i j hij.1 hij.2
          exact ⟨z, fun _ _ => hz⟩
        · exact ⟨0, fun h1 h2 => absurd ⟨h1, h2⟩ hij⟩
      refine ⟨fun i j => Classical.choose (ch i j), .inr ⟨a.block, a.off, by rw [← hpl], hlt, fun i j hi hj => ?_⟩, hl, hm63⟩
      have := Classical.choose_spec (ch i j) (by omega) hj
      refine ⟨?_, this.2⟩
      rw [← this.1, hpl, add_plain]
      rw [Nat.add_assoc]
theorem bools_open {a0 : Option Addr} {an ac : Nat} {d : DataW H} {p : List MemPlace} (h : DataW.Trod enc Try.prog W 0 (fun _ => true) true 23 (.slice a0 an ac) d p) : ∃ keep, BoolsAt W.heap.size W (.slice a0 an ac) keep ∧ keep.length ≤ 9223372036854775807 := by
  obtain ⟨fuel, hf⟩ := h
  rcases open_bools Try.underlying23 Try.underlying4 cells4 hf with ⟨hcs, _⟩ | ⟨a, len, cap, B, hcs, _, hl, hm, _, hx⟩
  · simp [Value.cells] at hcs
    obtain ⟨rfl, rfl, rfl⟩ := hcs
    exact ⟨[], ⟨none, 0, rfl, .inl rfl⟩, by simp⟩
  · simp [Value.cells] at hcs
    obtain ⟨rfl, rfl, rfl⟩ := hcs
    have hm63 : ac ≤ 9223372036854775807 := by unfold maxLen at hm; exact hm
    by_cases h0 : an = 0
    · subst h0
      exact ⟨[], ⟨some a, ac, rfl, .inl rfl⟩, by simp⟩
    · have hz := hx 0 (by omega)
      have hpl : a = ⟨a.block, a.off, none⟩ := plain_addr (a := a) (by simpa [Addr.add] using hz)
      have hlt : a.block < W.heap.size := World.block_lt_of_cell? W a (by simpa [Addr.add] using hz)
      refine ⟨(List.range an).map B, ⟨some a, ac, by simp, .inr ⟨a.block, a.off, hlt, by rw [← hpl], fun i hi => ?_⟩⟩, by simp; omega⟩
      have hi' : i < an := by simpa using hi
      have e := hx i (by omega)
      rw [hpl, add_plain] at e
      rw [e]
      simp
end
set_option maxRecDepth 100000 in
theorem lifted (os : Os) (started : os.Started) (H : Type) (enc : TypeId × Value → H) :
    ReturnsInHanded {} Try.checked os 3 .any (Rows.topTwinnedSpec.pre6 enc Try.prog Try.f3 Rows.topTwinnedRow.domain false) (Rows.topTwinnedSpec.post enc Try.prog Try.f3 false true false false) := by
  refine returnsInHanded_of_change (C := Try.checked) own started (by kernel_rfl) Try.func3
    (ChangeSpec.witness6 (enc := enc) (C := Try.checked) false ⟨#[], #[.slice none 0 0, .slice none 0 0], []⟩ 8 (by kernel_rfl) (by kernel_rfl) (by kernel_rfl) (by kernel_rfl)) ?_
  intro W base args ds gs before hval0 hW _ _
  have hval : ∀ (j : Nat) t v, Try.f3.params[j]? = some t → args[j]? = some v → Value.okWide Try.prog W .any base t v := hval0
  have hW' := hW
  obtain ⟨p, q, hA0, hV, rfl, _, _⟩ := hW
  have hA : DataW.TrodAll enc Try.prog W 0 (fun _ => true) true Try.f3.params.toList args.toList ds p := hA0
  rw [Try.params3] at hA hval
  have hlt := DataW.TrodAll.lt hA
  obtain ⟨v0, v1, d0, d1, p0, p1, rfl, rfl, rfl, h0, h1⟩ := trodAll_two hA
  obtain ⟨rfl, rfl⟩ := trodVars_none hV
  obtain ⟨a0, an, ac, rfl⟩ := okWide_slice Try.underlying22 (hval 0 22 v0 rfl rfl)
  obtain ⟨a1, bn, bc, rfl⟩ := okWide_slice Try.underlying23 (hval 1 23 v1 rfl rfl)
  clear hA0 hval0
  simp only [List.append_nil] at hW'
  obtain ⟨x, hx, hac, hm⟩ := acts_open h0
  obtain ⟨keep, hk, hkl⟩ := bools_open h1
  refine (law_true a0 an ac (.slice a1 bn bc) keep x W hx hac hm hk hkl).mono fun e W' ⟨he, hb⟩ => ?_
  subst he
  exact ⟨_, rfl, ends hW' hb (fun _ _ _ => trodAll_mk1 (shut_bool Try.underlying4 _)) (trodAll_mk2 (Below.trod laidOut (by kernel_rfl) (of_decide_eq_true (by kernel_rfl)) h0 hb (fun y hy => hlt y (List.mem_append_left _ hy))) (Below.trod laidOut (by kernel_rfl) (of_decide_eq_true (by kernel_rfl)) h1 hb (fun y hy => hlt y (List.mem_append_right _ hy)))) (fun _ => rfl)⟩
theorem holds : Rows.TopTwinnedSaid :=
  OpenClaim.holds_of_wide 3 Try.f3 rfl rfl rfl rfl rfl rfl rfl ⟨rfl, rfl, rfl, rfl, rfl⟩ rfl rfl rfl rfl rfl (by kernel_rfl) Try.func3 (by kernel_rfl)
    (of_decide_eq_true (by kernel_rfl)) (by unfold Func.isWrapper; first | (rw [if_pos (by decide +kernel)]; kernel_rfl) | (rw [if_neg (by decide +kernel)]; exact ⟨rfl, rfl⟩))
    (fun os started H enc _ => lifted os started H enc)
#print axioms holds
end Go.Proofs.Ytkbjmgenceghlaa
