/- The plain law: a disk that stands still behind any call, and a crash, leave what by hand they must. -/
import Derived.Test.YtkbjmgenceghlaaU3
import Derived.Test.YtkbjmgenceghlaaT9
namespace Go.Proofs.Ytkbjmgenceghlaa
namespace Pm
theorem burn_succ (f : Nat) : burn ((f + 1 : Nat) : Int) = (f : Int) := by unfold burn; rw [if_pos (by omega)]; omega
/-- the disk's way is the way by hand -/
theorem run_hands : ∀ (cs : List Cl) (u : List (List UInt8)) (l : List (Nat × List UInt8)) (f : Nat),
    ((Dk.run ⟨u, l, f⟩ cs).1.sure, (Dk.run ⟨u, l, f⟩ cs).1.loose) = (cs.take f).foldl hand (u, l) ∧ (Dk.run ⟨u, l, f⟩ cs).2 = decide (cs.length ≤ f)
  | [], u, l, f => by simp [Dk.run]
  | c :: cs, u, l, 0 => by
    have h0 : (Dk.mk u l ((0 : Nat) : Int)).fuse = 0 := rfl
    rw [Dk.run_down h0]
    simp
  | c :: cs, u, l, f + 1 => by
    have h0 : (Dk.mk u l ((f + 1 : Nat) : Int)).fuse ≠ 0 := by show ((f + 1 : Nat) : Int) ≠ 0; omega
    rw [Dk.run_cons h0]
    have e : Dk.does ⟨u, l, ((f + 1 : Nat) : Int)⟩ c = ⟨(hand (u, l) c).1, (hand (u, l) c).2, (f : Int)⟩ := by
      cases c with
      | wr k s => rw [Dk.wr_go h0]; simp only [burn_succ]; rfl
      | sync => rw [Dk.sync_go h0]; simp only [burn_succ]; rfl
    rw [e, List.take_succ_cons, List.foldl_cons]
    have ih := run_hands cs (hand (u, l) c).1 (hand (u, l) c).2 f
    refine ⟨ih.1, ?_⟩
    rw [ih.2]
    simp
theorem run_runs (u : List (List UInt8)) (cs : List Cl) (f : Nat) (keep : List Bool) :
    puts (Dk.run ⟨u, [], f⟩ cs).1.sure (keepL (Dk.run ⟨u, [], f⟩ cs).1.loose keep) = runsOf u cs f keep ∧ (Dk.run ⟨u, [], f⟩ cs).2 = decide (cs.length ≤ f) := by
  obtain ⟨h1, h2⟩ := run_hands cs u [] f
  refine ⟨?_, h2⟩
  unfold runsOf hands
  rw [← h1]
/-- what holds of each sector, and of each write, holds of each sector behind -/
theorem puts_inv (P : Nat → List UInt8 → Prop) (l : List (Nat × List UInt8)) : ∀ u : List (List UInt8), (∀ k s, u[k]? = some s → P k s) → (∀ x ∈ l, P x.1 x.2) → ∀ k s, (puts u l)[k]? = some s → P k s := by
  induction l with
  | nil => intro u h _; exact h
  | cons x l ih =>
    intro u h hl
    unfold puts at *
    rw [List.foldl_cons]
    refine ih _ (fun k s hk => ?_) (fun y hy => hl y (by simp [hy]))
    by_cases e : x.1 = k
    · subst e
      rw [List.getElem?_set_self'] at hk
      cases hu : u[x.1]? with
      | none => rw [hu] at hk; cases hk
      | some v =>
        rw [hu] at hk
        injection hk with hk
        subst hk
        exact hl x (by simp)
    · rw [List.getElem?_set_ne e] at hk
      exact h k s hk
theorem hands_inv (P : Nat → List UInt8 → Prop) (cs : List Cl) : ∀ st : List (List UInt8) × List (Nat × List UInt8), (∀ k s, st.1[k]? = some s → P k s) → (∀ x ∈ st.2, P x.1 x.2) → (∀ k s, Cl.wr k s ∈ cs → P k s) →
    (∀ k s, (cs.foldl hand st).1[k]? = some s → P k s) ∧ ∀ x ∈ (cs.foldl hand st).2, P x.1 x.2 := by
  induction cs with
  | nil => intro st h1 h2 _; exact ⟨h1, h2⟩
  | cons c cs ih =>
    intro st h1 h2 h3
    rw [List.foldl_cons]
    refine ih _ ?_ ?_ (fun k s h => h3 k s (by simp [h]))
    · cases c with
      | wr k s => exact h1
      | sync => exact puts_inv P _ _ h1 h2
    · cases c with
      | wr k s =>
        intro x hx
        rcases List.mem_append.1 hx with hx | hx
        · exact h2 x hx
        · simp at hx; subst hx; exact h3 k s (by simp)
      | sync => intro x hx; cases hx
theorem runsOf_inv (P : Nat → List UInt8 → Prop) (u : List (List UInt8)) (cs : List Cl) (f : Nat) (keep : List Bool) (h1 : ∀ k s, u[k]? = some s → P k s) (h2 : ∀ k s, Cl.wr k s ∈ cs → P k s) : ∀ k s, (runsOf u cs f keep)[k]? = some s → P k s := by
  obtain ⟨g1, g2⟩ := hands_inv P (cs.take f) (u, []) h1 (fun x hx => by cases hx) (fun k s h => h2 k s (List.mem_of_mem_take h))
  exact puts_inv P _ _ g1 (fun x hx => g2 x (keepL_mem hx))
theorem runsOf_length (u : List (List UInt8)) (cs : List Cl) (f : Nat) (keep : List Bool) : (runsOf u cs f keep).length = u.length := by
  unfold runsOf
  rw [puts_length, hands_length]
/-- all sectors are whole, and the mark is none, or that of these pages -/
structure Good (u : List (List UInt8)) (ids : List Nat) : Prop where
  len : u.length = 87
  secs : ∀ s ∈ u, s.length = 128
  mark : sec u 2 = zeros 128 ∨ sec u 2 = markOf ids
theorem Good.runs {u : List (List UInt8)} {ids : List Nat} (h : Good u ids) (hn : ids.length ≤ 8) (cs : List Cl) (f : Nat) (keep : List Bool) (hok : ∀ c ∈ cs, c.ok 87) (h2 : ∀ s, Cl.wr 2 s ∈ cs → s = zeros 128 ∨ s = markOf ids) : Good (runsOf u cs f keep) ids := by
  have hl := runsOf_length u cs f keep
  have hP := runsOf_inv (fun k s => s.length = 128 ∧ (k = 2 → s = zeros 128 ∨ s = markOf ids)) u cs f keep
    (fun k s hk => ⟨h.secs s (List.mem_of_getElem? hk), fun e => by
      subst e
      have := h.mark
      unfold sec at this
      rw [hk] at this
      exact this⟩)
    (fun k s hm => ⟨(hok _ hm).2, fun e => by subst e; exact h2 s hm⟩)
  refine ⟨by rw [hl, h.len], fun s hs => ?_, ?_⟩
  · obtain ⟨k, hk⟩ := List.mem_iff_getElem?.1 hs
    exact (hP k s hk).1
  · have hlt : 2 < (runsOf u cs f keep).length := by rw [hl, h.len]; omega
    have := (hP 2 _ (List.getElem?_eq_getElem hlt)).2 rfl
    unfold sec
    rw [List.getElem?_eq_getElem hlt]
    exact this
theorem homeW_wr {bs k : Nat} {s : List UInt8} {l : List (Nat × List UInt8)} (h : Cl.wr k s ∈ homeW bs l) : bs ≤ k := by
  obtain ⟨x, hx, hc⟩ := List.mem_flatMap.1 h
  obtain ⟨r, hr, e⟩ := List.mem_map.1 hc
  injection e with e _
  omega
theorem writeCalls_mark (l : List (Nat × List UInt8)) (s : List UInt8) (h : Cl.wr 2 s ∈ writeCalls 2 35 l) : s = zeros 128 ∨ s = markOf (l.map (·.1)) := by
  unfold writeCalls at h
  simp only [List.mem_append, List.mem_cons, List.not_mem_nil, or_false, reduceCtorEq, false_or] at h
  rcases h with ((h | h) | h) | h
  · have := homeW_wr h; omega
  · injection h with _ h; exact .inr h
  · have := homeW_wr h; omega
  · injection h with _ h; exact .inl h
theorem backCalls_mark (L : List (Nat × List UInt8)) (s : List UInt8) (h : Cl.wr 2 s ∈ backCalls 2 35 L) : s = zeros 128 := by
  unfold backCalls at h
  simp only [List.mem_append, List.mem_cons, List.not_mem_nil, or_false, reduceCtorEq, false_or] at h
  rcases h with h | h
  · have := homeW_wr h; omega
  · injection h
theorem back_whole (u : List (List UInt8)) (L : List (Nat × List UInt8)) (f : Nat) (keep : List Bool) (hu : 2 < u.length) (hf : L.length * 4 + 3 ≤ f) : sec (runsOf u (backCalls 2 35 L) f keep) 2 = zeros 128 := by
  unfold runsOf hands
  have hl : (backCalls 2 35 L).length ≤ f := by unfold backCalls; simp [homeW_len]; omega
  rw [List.take_of_length_le hl]
  unfold backCalls
  rw [List.foldl_append, List.foldl_append]
  generalize hst : (homeW 35 L).foldl hand (u, []) = st
  have h1 : st.1.length = u.length := by
    rw [← hst]
    exact hands_length u (homeW 35 L)
  have e : ([Cl.wr 2 (zeros 128), Cl.sync].foldl hand ([Cl.sync].foldl hand st)) = ((puts st.1 st.2).set 2 (zeros 128), []) := rfl
  rw [e]
  show sec (puts ((puts st.1 st.2).set 2 (zeros 128)) (keepL [] keep)) 2 = _
  have e2 : keepL [] keep = [] := rfl
  rw [e2]
  show sec ((puts st.1 st.2).set 2 (zeros 128)) 2 = _
  unfold sec
  rw [List.getElem?_set_self (by rw [puts_length, h1]; exact hu)]
  rfl
theorem runsOf_none (u : List (List UInt8)) (f : Nat) (keep : List Bool) : runsOf u [] f keep = u := by
  unfold runsOf hands
  simp [keepL, puts]
theorem runsOf_still (u : List (List UInt8)) (cs : List Cl) (keep : List Bool) : runsOf u cs 0 keep = u := by
  unfold runsOf hands
  simp [keepL, puts]
/-- a page's sector, off the page -/
theorem part_page (u : List (List UInt8)) (hu : ∀ s ∈ u, s.length = 128) (b r : Nat) (hr : r < 4) (hb : b + 4 ≤ u.length) : part (pageAt u b) r = sec u (b + r) := by
  have e : pageAt u b = pageN u b r ++ (sec u (b + r) ++ ((List.range' (r + 1) (3 - r)).flatMap fun k => sec u (b + k))) := by
    unfold pageAt pageN
    rcases (show r = 0 ∨ r = 1 ∨ r = 2 ∨ r = 3 by omega) with rfl | rfl | rfl | rfl <;> simp [List.range_succ, List.range'_succ]
  have hs : (sec u (b + r)).length = 128 := by
    unfold sec
    rw [List.getElem?_eq_getElem (show b + r < u.length by omega)]
    exact hu _ (List.getElem_mem _)
  rw [e]
  unfold part
  rw [List.drop_left' (pageN_whole u hu b r (by omega)), List.take_left' hs]
end Pm
end Go.Proofs.Ytkbjmgenceghlaa
