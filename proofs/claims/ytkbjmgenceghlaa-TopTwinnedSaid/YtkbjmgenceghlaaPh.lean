/- Statements that draw their order, in two phases: what is asked of the world holds through the first alone. -/
import Derived.Test.YtkbjmgenceghlaaMem
import Derived.Deep.RegionHeld3
namespace Go.Proofs.Ytkbjmgenceghlaa
open Go.RowKit
section
variable {P : Program} {ops : Array Oper} {Q : Exit → Act → World → Prop} {md : Region.Mode} {S : World → Prop} {n : Nat}
/-- whatever order is picked, and S holds behind each of the first n -/
def wpAnyP (P : Program) (md : Region.Mode) (ops : Array Oper) (Q : Exit → Act → World → Prop) (S : World → Prop) (n : Nat) : Nat → Array Bool → Act → World → Prop
  | 0, listed, a, w => Region.ready md ops listed = [] ∧ Q .normal a w
  | fuel + 1, listed, a, w =>
    (Region.ready md ops listed = [] → Q .normal a w) ∧
    ∀ i ∈ Region.ready md ops listed, wpOp P ops Q i (fun a' w' => (i < n → S w') ∧ wpAnyP P md ops Q S n fuel (listed.setIfInBounds i true) a' w') a w
theorem wpAny_of_phase : ∀ (fuel : Nat) (listed : Array Bool) (a : Act) (w : World), wpAnyP P md ops Q S n fuel listed a w → wpAny P md ops Q fuel listed a w
  | 0, _, _, _, h => h
  | fuel + 1, _, _, _, h => ⟨h.1, fun i hi => wpOp_mono (fun a' w' h' => wpAny_of_phase fuel _ a' w' h'.2) (h.2 i hi)⟩
/-- those from n on wait for number i -/
def waitB (md : Region.Mode) (ops : Array Oper) (n i : Nat) : Bool :=
  (List.range ops.size).all fun j => decide (j < n) || ((ops[j]?).map fun o => o.after.any fun e => Region.binds md e && e.on == i).getD true
theorem waitB_spec {i j : Nat} {oj : Oper} (h : waitB md ops n i = true) (hj : ops[j]? = some oj) (hn : n ≤ j) : ∃ e ∈ oj.after, Region.binds md e = true ∧ e.on = i := by
  unfold waitB at h
  have hlt : j < ops.size := (Array.getElem?_eq_some_iff.1 hj).1
  have h2 := List.all_eq_true.1 h j (List.mem_range.2 hlt)
  simp only [hj, Option.map_some, Option.getD_some, Bool.or_eq_true, decide_eq_true_eq] at h2
  rcases h2 with h2 | h2
  · omega
  · obtain ⟨e, he, hb⟩ := Array.any_eq_true'.1 h2
    simp only [Bool.and_eq_true, beq_iff_eq] at hb
    exact ⟨e, he, hb.1, hb.2⟩
theorem wpAnyP_first {i : Nat} {oi : Oper} {v : Value} (hi : ops[i]? = some oi) (hsel : ∀ (j : Nat) (o : Oper) cs b, ops[j]? = some o → o.op ≠ .select cs b)
    (hQ : ∀ c a w, Q (.panic c) (a.put oi.dst v) w → Q (.panic c) a w) (hwt : waitB md ops n i = true) (hin : i < n) :
    ∀ (fuel : Nat) (listed : Array Bool) (a : Act) (w : World),
      (∀ j oj, ops[j]? = some oj → j ≠ i → listed.getD j true = false → (∀ e ∈ oj.after, Region.binds md e = true → e.on ≠ i) → oi.apart ops oj = true) →
      i ∈ Region.ready md ops listed → YieldsIf P ops S oi v a → S w →
      wpAnyP P md ops Q S n fuel (listed.setIfInBounds i true) (a.put oi.dst v) w → wpAnyP P md ops Q S n (fuel + 1) listed a w := by
  intro fuel
  induction fuel with
  | zero =>
    intro listed a w _ hr hy hS H
    refine ⟨fun h => (by rw [h] at hr; cases hr), fun j hj => ?_⟩
    by_cases hji : j = i
    · subst hji; exact hy.wpOp hi hS ⟨fun _ => hS, H⟩
    · have := ready_mono hj hji
      rw [H.1] at this
      cases this
  | succ fuel ih =>
    intro listed a w hfree hr hy hS H
    refine ⟨fun h => (by rw [h] at hr; cases hr), fun j hj => ?_⟩
    by_cases hji : j = i
    · subst hji; exact hy.wpOp hi hS ⟨fun _ => hS, H⟩
    · have h1 := H.2 j (ready_mono hj hji)
      obtain ⟨hjun, oj, hoj, hall⟩ := mem_ready.1 hj
      have hnot : ∀ e ∈ oj.after, Region.binds md e = true → e.on ≠ i := fun e he hb heq => by
        have h1 := hall e he hb
        have h0 := (mem_ready.1 hr).1
        rw [heq] at h1
        rcases Nat.lt_or_ge i listed.size with h' | h'
        · simp [h'] at h0 h1; rw [h0] at h1; cases h1
        · simp [Array.getElem?_eq_none h'] at h1
      have hjn : j < n := by
        rcases Nat.lt_or_ge j n with h | h
        · exact h
        · obtain ⟨e, he, hb, h2⟩ := waitB_spec hwt hoj h
          exact absurd h2 (hnot e he hb)
      have h2 := wpOp_putIf hoj (hfree j oj hoj hji hjun hnot) (fun cs b => hsel i oi cs b hi) (fun cs b => hsel j oj cs b hoj) hQ hy h1
      have hfree' : ∀ k ok, ops[k]? = some ok → k ≠ i → (listed.setIfInBounds j true).getD k true = false →
          (∀ e ∈ ok.after, Region.binds md e = true → e.on ≠ i) → oi.apart ops ok = true := fun k ok hk hki hun hno => by
        refine hfree k ok hk hki ?_ hno
        by_cases hjk : j = k
        · subst hjk; exact hjun
        · rw [getD_set_ne true hjk] at hun; exact hun
      refine wpOp_mono (fun a' w' h3 => ⟨fun _ => h3.2.1 hjn, ih (listed.setIfInBounds j true) a' w' hfree' (ready_mono hr (Ne.symm hji)) h3.1 (h3.2.1 hjn) ?_⟩) h2
      rw [Array.setIfInBounds_comm _ _ hji]
      exact h3.2.2
/-- take number i, of the first phase, ahead of all that may come up -/
theorem wpAnyP_take (i : Nat) (dst : Option Tmp) {oi : Oper} {v : Value} {fuel : Nat} {listed : Array Bool} {a : Act} {w : World} (hi : ops[i]? = some oi) (hd : oi.dst = dst)
    (hok : (decide (i < n) && Region.noSelect ops && Region.free md ops listed i && (Region.ready md ops listed).contains i && waitB md ops n i) = true)
    (hQ : ∀ c a w, Q (.panic c) (a.put dst v) w → Q (.panic c) a w) (hS : S w) (hy : YieldsIf P ops S oi v a)
    (h : wpAnyP P md ops Q S n fuel (listed.setIfInBounds i true) (a.put dst v) w) : wpAnyP P md ops Q S n (fuel + 1) listed a w := by
  subst hd
  simp only [Bool.and_eq_true, decide_eq_true_eq] at hok
  obtain ⟨⟨⟨⟨h1, h2⟩, h3⟩, h4⟩, h5⟩ := hok
  exact wpAnyP_first hi (Region.noSelect_spec h2) hQ h5 h1 fuel listed a w (Region.free_spec hi h3) (by simpa using h4) hy hS h
/-- number i alone may come up -/
theorem wpAnyP_one (i : Nat) {oi : Oper} {fuel : Nat} {listed : Array Bool} {a : Act} {w : World} (hi : ops[i]? = some oi) (hr : Region.ready md ops listed = [i]) (hg : Region.wanted oi (yielded ops a.tmps) = true)
    (h : ∀ K : Act → World → Prop, Shut (∀ a' w', (i < n → S w') → ((i < n → S w') → wpAnyP P md ops Q S n fuel (listed.setIfInBounds i true) a' w') → K a' w') → Oper.wp P oi a w K Q) : wpAnyP P md ops Q S n (fuel + 1) listed a w := by
  refine ⟨fun h0 => (by rw [hr] at h0; cases h0), fun j hj => ?_⟩
  rw [hr] at hj
  obtain rfl := List.mem_singleton.1 hj
  refine wpOp_step hi fun K' hK => ?_
  rw [if_pos hg]
  exact h K' (fun a w hS hW => hK a w ⟨hS, hW hS⟩)
/-- number i alone may come up, and runs to a value -/
theorem wpAnyP_runs (i : Nat) (dst : Option Tmp) {oi : Oper} {v : Value} {w1 : World} {fuel : Nat} {listed : Array Bool} {a : Act} {w : World} (hi : ops[i]? = some oi) (hd : oi.dst = dst) (hr : Region.ready md ops listed = [i]) (hg : Region.wanted oi (yielded ops a.tmps) = true)
    (hv : (execOp a.eval oi).run P w = .ok (.value v) w1) (hS : i < n → S w1)
    (h : wpAnyP P md ops Q S n fuel (listed.setIfInBounds i true) (a.put dst v) w1) : wpAnyP P md ops Q S n (fuel + 1) listed a w :=
  wpAnyP_one i hi hr hg fun K hK => by
    subst hd
    unfold Oper.wp
    rw [hv]
    exact hK.out _ _ hS (fun _ => h)
/-- number i alone may come up, and hands nothing back -/
theorem wpAnyP_skips (i : Nat) {oi : Oper} {w1 : World} {fuel : Nat} {listed : Array Bool} {a : Act} {w : World} (hi : ops[i]? = some oi) (hd : oi.dst = none) (hr : Region.ready md ops listed = [i]) (hg : Region.wanted oi (yielded ops a.tmps) = true)
    (hv : (execOp a.eval oi).run P w = .ok .skip w1) (hS : i < n → S w1)
    (h : wpAnyP P md ops Q S n fuel (listed.setIfInBounds i true) a w1) : wpAnyP P md ops Q S n (fuel + 1) listed a w :=
  wpAnyP_one i hi hr hg fun K hK => by
    unfold Oper.wp
    rw [hv]
    exact hK.out _ _ hS (fun _ => by rw [hd]; exact h)
theorem wpAnyP_done {listed : Array Bool} {a : Act} {w : World} (hr : Region.ready md ops listed = []) (h : Q .normal a w) :
    ∀ fuel, wpAnyP P md ops Q S n fuel listed a w
  | 0 => ⟨hr, h⟩
  | _ + 1 => ⟨fun _ => h, by rw [hr]; simp⟩
theorem wp_region_phase {id : Nat} {a : Act} {w : World} (n : Nat) (S : World → Prop) (hm : P.follows .mixedOrders = true) (hS : S w.drew)
    (h : S w.drew → wpAnyP P .any ops Q S n ops.size (Array.replicate ops.size false) a w.drew) : (Code.region id ops true).wp P Q a w :=
  wp_region_any hm (wpAny_of_phase _ _ _ _ (h hS))
/-- number i alone may come up: a call -/
theorem wpAnyP_calls (i : Nat) (dst : Option Tmp) {oi : Oper} {g : FuncId} {as : Array Value} {R : Ending → World → Prop} {fuel : Nat} {listed : Array Bool} {a : Act} {w : World} (hi : ops[i]? = some oi) (hd : oi.dst = dst) (hr : Region.ready md ops listed = [i]) (hg : Region.wanted oi (yielded ops a.tmps) = true)
    (hx : (execOp a.eval oi).run P w = .ok (.enter g as) w) (hc : Calls P g as w R)
    (hR : ∀ e w', R e w' → ∃ v, e = .returned v ∧ (i < n → S w') ∧ wpAnyP P md ops Q S n fuel (listed.setIfInBounds i true) (a.put dst v) w') : wpAnyP P md ops Q S n (fuel + 1) listed a w :=
  wpAnyP_one i hi hr hg fun K hK => by
    subst hd
    unfold Oper.wp
    rw [hx]
    refine hc.mono fun e w' he => ?_
    obtain ⟨v, rfl, hS, hW⟩ := hR e w' he
    exact hK.out _ _ hS (fun _ => hW)
end
section
variable {P : Program} {ρ : Operand → Value} {o : Oper} {v : Value} {w w1 : World}
theorem exec_convert {f t : TypeId} {x : Operand} {u : Value} (ho : o.op = .convert f t x) (h : (convert f t u).run P w = .ok v w1) (hx : ρ x = u) : (execOp ρ o).run P w = .ok (.value v) w1 := by
  subst hx; unfold execOp; simp only [ho, Sem.run_bind, h, Result.andThen_ok, Sem.run_pure]
theorem exec_arrayAt {t : TypeId} {x : Operand} {u : Value} (ho : o.op = .sliceToArrayPointer t x) (h : (Instr.arrayAt t u).run P w = .ok v w1) (hx : ρ x = u) : (execOp ρ o).run P w = .ok (.value v) w1 := by
  subst hx; unfold execOp; simp only [ho, Sem.run_bind, h, Result.andThen_ok, Sem.run_pure]
theorem exec_load {t : TypeId} {x : Operand} {u : Value} (ho : o.op = .load t x) (h : (Instr.loadAt t u).run P w = .ok v w1) (hx : ρ x = u) : (execOp ρ o).run P w = .ok (.value v) w1 := by
  subst hx; unfold execOp; simp only [ho, Sem.run_bind, h, Result.andThen_ok, Sem.run_pure]
theorem exec_store {t : TypeId} {x y : Operand} {u z : Value} (ho : o.op = .store t x y) (h : (Instr.storeAt t u z).run P w = .ok () w1) (hx : ρ x = u) (hy : ρ y = z) : (execOp ρ o).run P w = .ok .skip w1 := by
  subst hx; subst hy; unfold execOp; simp only [ho, Sem.run_bind, h, Result.andThen_ok, Sem.run_pure]
theorem exec_build {t : TypeId} {parts : Array (Nat × Operand)} {us : Array (Nat × Value)} (ho : o.op = .build t parts) (h : (Instr.build t us).run P w = .ok v w1) (hx : (parts.map fun (i, x) => (i, ρ x)) = us) : (execOp ρ o).run P w = .ok (.value v) w1 := by
  subst hx; unfold execOp; simp only [ho, Sem.run_bind, h, Result.andThen_ok, Sem.run_pure]
theorem exec_buildSlice {t : TypeId} {n : Nat} {parts : Array (Nat × Operand)} {us : Array (Nat × Value)} (ho : o.op = .buildSlice t n parts) (h : (Instr.buildSlice t n us).run P w = .ok v w1) (hx : (parts.map fun (i, x) => (i, ρ x)) = us) : (execOp ρ o).run P w = .ok (.value v) w1 := by
  subst hx; unfold execOp; simp only [ho, Sem.run_bind, h, Result.andThen_ok, Sem.run_pure]
theorem exec_slice {t : TypeId} {x : Operand} {lo hi mx : Option Operand} {u : Value} {l m k : Option Value} (ho : o.op = .slice t x lo hi mx) (h : (Instr.sliceAt t u l m k).run P w = .ok v w1) (hx : ρ x = u) (hl : lo.map ρ = l) (hh : hi.map ρ = m) (hm : mx.map ρ = k) : (execOp ρ o).run P w = .ok (.value v) w1 := by
  subst hx; subst hl; subst hh; subst hm; unfold execOp; simp only [ho, Sem.run_bind, h, Result.andThen_ok, Sem.run_pure]
theorem exec_indexAddr {t : TypeId} {x y : Operand} {u z : Value} (ho : o.op = .indexAddr t x y) (h : (Instr.indexAt t u z).run P w = .ok v w1) (hx : ρ x = u) (hy : ρ y = z) : (execOp ρ o).run P w = .ok (.value v) w1 := by
  subst hx; subst hy; unfold execOp; simp only [ho, Sem.run_bind, h, Result.andThen_ok, Sem.run_pure]
theorem exec_fieldAddr {t : TypeId} {x : Operand} {f : Nat} {u : Value} (ho : o.op = .fieldAddr t x f) (h : (Instr.fieldAt t u f).run P w = .ok v w1) (hx : ρ x = u) : (execOp ρ o).run P w = .ok (.value v) w1 := by
  subst hx; unfold execOp; simp only [ho, Sem.run_bind, h, Result.andThen_ok, Sem.run_pure]
theorem exec_nilCheck {x : Operand} {p : Addr} (ho : o.op = .nilCheck x) (hx : ρ x = .pointer (some p)) : (execOp ρ o).run P w = .ok (.value (.pointer (some p))) w := by
  unfold execOp; simp only [ho, hx]; rfl
theorem exec_move {x : Operand} (ho : o.op = .assign x) (hx : ρ x = v) : (execOp ρ o).run P w = .ok (.value v) w := by
  subst hx; unfold execOp; simp only [ho]; rfl
theorem exec_call {f : Operand} {args : Array Operand} {argTypes : Array TypeId} {g : FuncId} {first vs cap as : Array Value} (ho : o.op = .call { callee := .value f, args := args, argTypes := argTypes }) (hf : ρ f = .func (.func g) first cap) (hv : args.map ρ = vs)
    (has : first ++ vs ++ cap = as) (eg : ∀ args w, (callFunc g args).run P w = .ok (.enter g args) w) : (execOp ρ o).run P w = .ok (.enter g as) w := by
  subst hv; subst has
  unfold execOp
  simp only [ho, resolve, hf, Deferred.ofValue, Sem.run_bind, Sem.run_pure, Result.andThen_ok, invoke, eg]
end
end Go.Proofs.Ytkbjmgenceghlaa
