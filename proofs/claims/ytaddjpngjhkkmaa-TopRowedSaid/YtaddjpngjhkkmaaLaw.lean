/- pentimentotop.TopRowed: for every cell, every kind and every four numbers the law returns true, and its arguments read behind the call as they read before. Proved of the given row, with no condition of its own. -/
import Derived.Test.YtaddjpngjhkkmaaRows
import Derived.Test.YtaddjpngjhkkmaaW18
import Derived.ChangeSame
import Derived.JoinedOf
import Derived.JoinedAt
import Derived.RowKit3
import Derived.Below
import Derived.ProofKit
import Derived.OpenShut
import Derived.Deep.Fields
import Derived.Laws.IdiomArrays
import Derived.ChangeArms
import Derived.Lib.SmallJoins
namespace Go.Proofs.Ytaddjpngjhkkmaa
open Go.ChangeShapes Go.WideShapes Go.ChangeAt Go.RowKit Go.Deep Go.Joins
/-- the row's end where it is asked of nothing that the call made: new blocks alone have come -/
theorem ends {H : Type} {enc : TypeId × Value → H} {P : Program} {f : Func} {s : ChangeSpec} {W W' : World} {args : Array Value} {v : Value} {ds gs : List (DataW H)} {before : List MemPlace}
    (hW : DataW.Whole enc P f.params.toList s.vars false W args.toList ds gs before) (hb : Below W.heap.size W W')
    (hr : ∀ (b : Nat) (sp : Nat → Bool) (hd : Bool), DataW.TrodAll enc P W' b sp hd f.resultTypes.toList (v.resultList f.resultTypes.size) (s.fn H (ds ++ gs)).results [])
    (ha : ∀ sp : Nat → Bool, DataW.TrodAll enc P W' 0 sp true f.params.toList args.toList (s.fn H (ds ++ gs)).args before)
    (hv : ∀ sp : Nat → Bool, DataW.TrodVars enc P W' sp s.vars (s.fn H (ds ++ gs)).vars []) :
    s.post enc P f false true false false W args v W' :=
  ⟨ds, gs, before, [], before, [], hW, hr _ _ _, ha _, hv _, World.keptBut_mono (fun p hp => ⟨hp, Or.inr (Or.inl hp)⟩) (hb.frame (· ∈ before)), fun h => by cases h⟩
section
variable {H : Type} {enc : TypeId × Value → H} {P : Program} {w : World} {base : Nat} {spare : Nat → Bool} {held : Bool}
theorem open_agg8 {r : Reach} {b0 : Nat} {t : TypeId} {f0 f1 f2 f3 f4 f5 f6 f7 : Field} {v : Value} {d : DataW H} {p : List MemPlace} (hs : P.underlying t = some (.struct #[f0, f1, f2, f3, f4, f5, f6, f7])) (hone : oneCellFields P #[f0, f1, f2, f3, f4, f5, f6, f7] = true) (hC : P.cellsOf t = 8)
    (hv : Value.okWide P w r b0 t v) (h : DataW.Trod enc P w base spare held t v d p) :
    ∃ (v0 v1 v2 v3 v4 v5 v6 v7 : Value) (y0 y1 y2 y3 y4 y5 y6 y7 : DataW H × List MemPlace) (n : Nat), v = .agg #[v0, v1, v2, v3, v4, v5, v6, v7] ∧ d = .agg [y0.1, y1.1, y2.1, y3.1, y4.1, y5.1, y6.1, y7.1] ∧ p = y0.2 ++ (y1.2 ++ (y2.2 ++ (y3.2 ++ (y4.2 ++ (y5.2 ++ (y6.2 ++ (y7.2))))))) ∧
      DataW.trod enc P w base spare held n f0.type [v0] = some y0 ∧ DataW.trod enc P w base spare held n f1.type [v1] = some y1 ∧ DataW.trod enc P w base spare held n f2.type [v2] = some y2 ∧ DataW.trod enc P w base spare held n f3.type [v3] = some y3 ∧ DataW.trod enc P w base spare held n f4.type [v4] = some y4 ∧ DataW.trod enc P w base spare held n f5.type [v5] = some y5 ∧ DataW.trod enc P w base spare held n f6.type [v6] = some y6 ∧ DataW.trod enc P w base spare held n f7.type [v7] = some y7 := by
  obtain ⟨cs, rfl, hsz⟩ := okWide_struct hs hv
  obtain ⟨l⟩ := cs
  match l, hsz.trans hC with
  | [c0, c1, c2, c3, c4, c5, c6, c7], _ =>
    obtain ⟨fuel, hf⟩ := h
    obtain ⟨xs, n, _, hx, _, hlen, hg⟩ := DataW.trod_struct hs hf
    obtain ⟨o0, k0⟩ := hone_of hone 0 f0 rfl
    obtain ⟨o1, k1⟩ := hone_of hone 1 f1 rfl
    obtain ⟨o2, k2⟩ := hone_of hone 2 f2 rfl
    obtain ⟨o3, k3⟩ := hone_of hone 3 f3 rfl
    obtain ⟨o4, k4⟩ := hone_of hone 4 f4 rfl
    obtain ⟨o5, k5⟩ := hone_of hone 5 f5 rfl
    obtain ⟨o6, k6⟩ := hone_of hone 6 f6 rfl
    obtain ⟨o7, k7⟩ := hone_of hone 7 f7 rfl
    match xs, hlen with
    | [y0, y1, y2, y3, y4, y5, y6, y7], _ =>
      simp only [Prod.mk.injEq] at hx
      exact ⟨c0, c1, c2, c3, c4, c5, c6, c7, y0, y1, y2, y3, y4, y5, y6, y7, n, rfl, by simpa using hx.1, by simpa using hx.2, by simpa [Value.cells, o0, k0] using hg 0 f0 rfl, by simpa [Value.cells, o1, k1] using hg 1 f1 rfl, by simpa [Value.cells, o2, k2] using hg 2 f2 rfl, by simpa [Value.cells, o3, k3] using hg 3 f3 rfl, by simpa [Value.cells, o4, k4] using hg 4 f4 rfl, by simpa [Value.cells, o5, k5] using hg 5 f5 rfl, by simpa [Value.cells, o6, k6] using hg 6 f6 rfl, by simpa [Value.cells, o7, k7] using hg 7 f7 rfl⟩
end
theorem own : ownKnob Try.prog.godebug = none := by kernel_rfl
theorem cells24 : Try.prog.cellsOf 24 = 8 := by kernel_rfl
theorem cells25 : Try.prog.cellsOf 25 = 1 := by kernel_rfl
theorem cells26 : Try.prog.cellsOf 26 = 4 := by kernel_rfl
theorem cells4 : Try.prog.cellsOf 4 = 1 := by kernel_rfl
theorem cells5 : Try.prog.cellsOf 5 = 1 := by kernel_rfl
theorem cells22 : Try.prog.cellsOf 22 = 1 := by kernel_rfl
theorem list_four (l : List Value) (h : l.length = 4) : ∃ a b c d, l = [a, b, c, d] := by
  match l, h with
  | [a, b, c, d], _ => exact ⟨a, b, c, d, rfl⟩
theorem nat_u8 {a : Int} (h : (Lit.int .u8 a).wf = true) : ∃ n : Nat, a = n ∧ n < 256 := by
  have hx : 0 ≤ a ∧ a ≤ 255 := by simpa [Lit.wf, IntKind.min, IntKind.max, IntKind.signed, IntKind.bits] using h
  exact ⟨a.toNat, by omega, by omega⟩
theorem nat_u16 {a : Int} (h : (Lit.int .u16 a).wf = true) : ∃ n : Nat, a = n ∧ n < 65536 := by
  have hx : 0 ≤ a ∧ a ≤ 65535 := by simpa [Lit.wf, IntKind.min, IntKind.max, IntKind.signed, IntKind.bits] using h
  exact ⟨a.toNat, by omega, by omega⟩
theorem nat_u32 {a : Int} (h : (Lit.int .u32 a).wf = true) : ∃ n : Nat, a = n ∧ n < 4294967296 := by
  have hx : 0 ≤ a ∧ a ≤ 4294967295 := by simpa [Lit.wf, IntKind.min, IntKind.max, IntKind.signed, IntKind.bits] using h
  exact ⟨a.toNat, by omega, by omega⟩
set_option maxRecDepth 100000 in
theorem lifted (os : Os) (started : os.Started) (H : Type) (enc : TypeId × Value → H) :
    ReturnsInHanded {} Try.checked os 3 .any (Rows.topRowedSpec.pre6 enc Try.prog Try.f3 Rows.topRowedRow.domain false) (Rows.topRowedSpec.post enc Try.prog Try.f3 false true false false) := by
  refine returnsInHanded_of_change (C := Try.checked) own started (by kernel_rfl) Try.func3
    (ChangeSpec.witness6 (enc := enc) (C := Try.checked) false ⟨#[], #[.agg #[.int .u8 0, .int .u8 0, .int .u8 0, .int .u8 0, .bool false, .int .u16 0, .int .u16 0, .int .u16 0], .int .u8 0, .agg #[.int .u32 0, .int .u32 0, .int .u32 0, .int .u32 0]], []⟩ 8 (by kernel_rfl) (by kernel_rfl) (by kernel_rfl) (by kernel_rfl)) ?_
  intro W base args ds gs before hval0 hW _ _
  have hval : ∀ (j : Nat) t v, Try.f3.params[j]? = some t → args[j]? = some v → Value.okWide Try.prog W .any base t v := hval0
  have hW' := hW
  obtain ⟨p, q, hA0, hV, rfl, _, _⟩ := hW
  have hA : DataW.TrodAll enc Try.prog W 0 (fun _ => true) true Try.f3.params.toList args.toList ds p := hA0
  rw [Try.params3] at hA hval
  obtain ⟨v0, v1, v2, d0, d1, d2, p0, p1, p2, rfl, rfl, rfl, h0, h1, h2⟩ := trodAll_three hA
  obtain ⟨rfl, rfl⟩ := trodVars_none hV
  obtain ⟨c0, c1, c2, c3, c4, c5, c6, c7, y0, y1, y2, y3, y4, y5, y6, y7, m, rfl, rfl, rfl, hy0, hy1, hy2, hy3, hy4, hy5, hy6, hy7⟩ := open_agg8 Try.underlying24 (by kernel_rfl) cells24 (hval 0 24 v0 rfl rfl) h0
  obtain ⟨z0, e0, rfl, w0⟩ := DataW.trod_int Try.underlying5 hy0
  obtain ⟨z1, e1, rfl, w1⟩ := DataW.trod_int Try.underlying5 hy1
  obtain ⟨z2, e2, rfl, w2⟩ := DataW.trod_int Try.underlying5 hy2
  obtain ⟨z3, e3, rfl, w3⟩ := DataW.trod_int Try.underlying5 hy3
  obtain ⟨z4, e4, rfl⟩ := DataW.trod_bool Try.underlying4 hy4
  obtain ⟨z5, e5, rfl, w5⟩ := DataW.trod_int Try.underlying22 hy5
  obtain ⟨z6, e6, rfl, w6⟩ := DataW.trod_int Try.underlying22 hy6
  obtain ⟨z7, e7, rfl, w7⟩ := DataW.trod_int Try.underlying22 hy7
  simp only [List.cons.injEq, and_true] at e0 e1 e2 e3 e4 e5 e6 e7
  subst e0 e1 e2 e3 e4 e5 e6 e7
  obtain ⟨ky, rfl, hky⟩ := nat_u8 w0
  obtain ⟨lo, rfl, hlo⟩ := nat_u8 w1
  obtain ⟨va, rfl, hva⟩ := nat_u8 w2
  obtain ⟨pd, rfl, hpd⟩ := nat_u8 w3
  obtain ⟨tx, rfl, htx⟩ := nat_u16 w5
  obtain ⟨pg, rfl, hpg⟩ := nat_u16 w6
  obtain ⟨sl, rfl, hsl⟩ := nat_u16 w7
  obtain ⟨zk, rfl, rfl, rfl, wk⟩ := open_int Try.underlying5 (hval 1 5 v1 rfl rfl) h1
  obtain ⟨kd, rfl, hkd⟩ := nat_u8 wk
  obtain ⟨cs, rfl, hsz, _⟩ : ∃ cs, v2 = .agg cs ∧ cs.size = Try.prog.cellsOf 26 ∧ Row.okWide Try.prog W .any base 26 cs := by
    have := hval 2 26 v2 rfl rfl
    simpa [Value.okWide, Try.underlying26] using this
  rw [cells26] at hsz
  obtain ⟨l⟩ := cs
  obtain ⟨b0, b1, b2, b3, rfl⟩ := list_four l hsz
  obtain ⟨fuel, hf⟩ := h2
  obtain ⟨x0, x1, x2, x3, m', hx, hx0, hx1, hx2, hx3⟩ := trod_array4 Try.underlying26 cells25 hf
  obtain ⟨n0, g0, rfl, u0⟩ := DataW.trod_int Try.underlying25 hx0
  obtain ⟨n1, g1, rfl, u1⟩ := DataW.trod_int Try.underlying25 hx1
  obtain ⟨n2, g2, rfl, u2⟩ := DataW.trod_int Try.underlying25 hx2
  obtain ⟨n3, g3, rfl, u3⟩ := DataW.trod_int Try.underlying25 hx3
  simp only [List.cons.injEq, and_true] at g0 g1 g2 g3
  subst g0 g1 g2 g3
  simp only [Prod.mk.injEq] at hx
  obtain ⟨rfl, rfl⟩ := hx
  obtain ⟨m0, rfl, hm0⟩ := nat_u32 u0
  obtain ⟨m1, rfl, hm1⟩ := nat_u32 u1
  obtain ⟨m2, rfl, hm2⟩ := nat_u32 u2
  obtain ⟨m3, rfl, hm3⟩ := nat_u32 u3
  clear hA0 hval0
  simp only [List.append_nil] at hW'
  have rdS : ∀ (W' : World) (sp : Nat → Bool), DataW.Trod enc Try.prog W' 0 sp true 24 (.agg #[.int .u8 ky, .int .u8 lo, .int .u8 va, .int .u8 pd, .bool z4, .int .u16 tx, .int .u16 pg, .int .u16 sl]) (.agg [.lit (.int .u8 ky), .lit (.int .u8 lo), .lit (.int .u8 va), .lit (.int .u8 pd), .lit (.bool z4), .lit (.int .u16 tx), .lit (.int .u16 pg), .lit (.int .u16 sl)]) [] := fun W' sp =>
    ⟨2, by simp [DataW.trod, Value.cells, Try.underlying24, Try.underlying5, Try.underlying22, Try.underlying4, cells24, cells5, cells22, cells4, w0, w1, w2, w3, w5, w6, w7]⟩
  have rdA : ∀ (W' : World) (sp : Nat → Bool), DataW.Trod enc Try.prog W' 0 sp true 26 (.agg #[.int .u32 m0, .int .u32 m1, .int .u32 m2, .int .u32 m3]) (.agg [.lit (.int .u32 m0), .lit (.int .u32 m1), .lit (.int .u32 m2), .lit (.int .u32 m3)]) [] := fun W' sp =>
    ⟨2, by simp [DataW.trod, Value.cells, Try.underlying26, Try.underlying25, cells26, cells25, u0, u1, u2, u3, show List.range 4 = [0, 1, 2, 3] from rfl]⟩
  refine (law_walk ky lo va pd tx pg sl kd m0 m1 m2 m3 z4 W hky hlo hva hpd htx hpg hsl hkd hm0 hm1 hm2 hm3).mono fun e W' ⟨he, hb⟩ => ?_
  subst he
  exact ⟨_, rfl, ends hW' hb (fun _ _ _ => trodAll_mk1 (shut_bool Try.underlying4 _)) (fun sp => trodAll_mk3 (rdS W' sp) (shut_int Try.underlying5 wk) (rdA W' sp)) (fun _ => rfl)⟩
theorem holds : Rows.TopRowedSaid :=
  OpenClaim.holds_of_wide 3 Try.f3 rfl rfl rfl rfl rfl rfl rfl ⟨rfl, rfl, rfl, rfl, rfl⟩ rfl rfl rfl rfl rfl (by kernel_rfl) Try.func3 (by kernel_rfl)
    (of_decide_eq_true (by kernel_rfl)) (by unfold Func.isWrapper; first | (rw [if_pos (by decide +kernel)]; kernel_rfl) | (rw [if_neg (by decide +kernel)]; exact ⟨rfl, rfl⟩))
    (fun os started H enc _ => lifted os started H enc)
#print axioms holds
end Go.Proofs.Ytaddjpngjhkkmaa
