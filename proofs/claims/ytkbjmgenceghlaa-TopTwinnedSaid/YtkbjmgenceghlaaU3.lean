/- Calls by hand: what 'runs' answers, and leaves of the sectors. -/
import Derived.Test.YtkbjmgenceghlaaU2
namespace Go.Proofs.Ytkbjmgenceghlaa
open Go.RowKit
def strCell (s : List UInt8) : Value := .string ⟨s.toArray⟩
def sureArr (u : List (List UInt8)) : Array Value := (u.map strCell).toArray
theorem sureArr_set (u : List (List UInt8)) (k : Nat) (s : List UInt8) : (sureArr u).setIfInBounds k (.string ⟨s.toArray⟩) = sureArr (u.set k s) := by
  simp [sureArr, List.map_set, strCell]
theorem sureArr_get (u : List (List UInt8)) (k : Nat) (hk : k < u.length) : (sureArr u)[k]? = some (strCell (u[k]'hk)) := by
  simp [sureArr, hk]
namespace Pm
def wrC (x : Nat × List UInt8) : Cl := .wr x.1 x.2
/-- sectors and what is loose, behind a call by hand -/
def hand (st : List (List UInt8) × List (Nat × List UInt8)) : Cl → List (List UInt8) × List (Nat × List UInt8)
  | .wr k s => (st.1, st.2 ++ [(k, s)])
  | .sync => (puts st.1 st.2, [])
def hands (u : List (List UInt8)) (cs : List Cl) : List (List UInt8) × List (Nat × List UInt8) := cs.foldl hand (u, [])
/-- sectors behind calls that stop at a fuse, and a crash -/
def runsOf (u : List (List UInt8)) (cs : List Cl) (fuse : Nat) (keep : List Bool) : List (List UInt8) :=
  puts (hands u (cs.take fuse)).1 (keepL (hands u (cs.take fuse)).2 keep)
theorem hands_snoc (u : List (List UInt8)) (cs : List Cl) (j : Nat) (hj : j < cs.length) : hands u (cs.take (j + 1)) = hand (hands u (cs.take j)) (cs[j]'hj) := by
  unfold hands
  rw [List.take_succ_eq_append_getElem hj, List.foldl_append]
  rfl
theorem hands_length (u : List (List UInt8)) (cs : List Cl) : (hands u cs).1.length = u.length := by
  unfold hands
  have h : ∀ (cs : List Cl) (st : List (List UInt8) × List (Nat × List UInt8)), (cs.foldl hand st).1.length = st.1.length := by
    intro cs
    induction cs with
    | nil => intro st; rfl
    | cons c cs ih =>
      intro st
      rw [List.foldl_cons, ih]
      cases c
      · rfl
      · exact puts_length _ _
  exact h cs _
theorem hands_loose (u : List (List UInt8)) (m : Nat) (cs : List Cl) (h : ∀ c ∈ cs, c.ok m) : ∀ x ∈ (hands u cs).2, x.1 < m ∧ x.2.length = 128 := by
  unfold hands
  have h2 : ∀ (cs : List Cl) (st : List (List UInt8) × List (Nat × List UInt8)), (∀ c ∈ cs, c.ok m) → (∀ x ∈ st.2, x.1 < m ∧ x.2.length = 128) → ∀ x ∈ (cs.foldl hand st).2, x.1 < m ∧ x.2.length = 128 := by
    intro cs
    induction cs with
    | nil => intro st _ h; exact h
    | cons c cs ih =>
      intro st hc h
      rw [List.foldl_cons]
      refine ih _ (fun c' hc' => hc c' (by simp [hc'])) ?_
      cases c with
      | wr k s =>
        intro x hx
        rcases List.mem_append.1 hx with hx | hx
        · exact h x hx
        · simp at hx; subst hx; exact hc (.wr k s) (by simp)
      | sync => intro x hx; cases hx
  exact h2 cs _ h (fun x hx => by cases hx)
theorem hands_count (u : List (List UInt8)) (cs : List Cl) : (hands u cs).2.length ≤ cs.length := by
  unfold hands
  have h2 : ∀ (cs : List Cl) (st : List (List UInt8) × List (Nat × List UInt8)), (cs.foldl hand st).2.length ≤ st.2.length + cs.length := by
    intro cs
    induction cs with
    | nil => intro st; simp
    | cons c cs ih =>
      intro st
      rw [List.foldl_cons]
      have := ih (hand st c)
      have h3 : (hand st c).2.length ≤ st.2.length + 1 := by cases c <;> simp [hand]
      simp
      omega
  have := h2 cs (u, [])
  simpa using this
end Pm
/-- sectors by hand, in a slice in a box -/
structure SureAt (w : World) (bx gs : Nat) (u : List (List UInt8)) : Prop where
  box : Blk w bx 28 #[.slice (some ⟨gs, 0, none⟩) u.length u.length]
  row : Blk w gs 9 (sureArr u)
theorem SureAt.below {w w' : World} {bx gs : Nat} {u : List (List UInt8)} (h : SureAt w bx gs u) (hb : Below w.heap.size w w') : SureAt w' bx gs u := ⟨h.box.after hb, h.row.after hb⟩
theorem SureAt.set {w : World} {bx gs : Nat} {u : List (List UInt8)} (h : SureAt w bx gs u) (k : Nat) (s : List UInt8) : SureAt (w.setCell ⟨gs, k, none⟩ (.string ⟨s.toArray⟩)) bx gs (u.set k s) := by
  refine ⟨?_, ?_⟩
  · have := h.box.far (p := ⟨gs, k, none⟩) (h.box.ne_ h.row (by decide)) (.string ⟨s.toArray⟩)
    rw [List.length_set]; exact this
  · have := h.row.set_ k (.string ⟨s.toArray⟩)
    rwa [sureArr_set] at this
theorem SureAt.grown {w w' : World} {bx gs : Nat} {u : List (List UInt8)} {row : Option Nat} (h : SureAt w bx gs u) (hg : w.grownBy w' row) (h1 : some bx ≠ row) (h2 : some gs ≠ row) : SureAt w' bx gs u := ⟨h.box.grown hg h1, h.row.grown hg h2⟩
theorem CRow.only {base : Nat} {w w' : World} {v : Value} {cs : List Pm.Cl} {gs : Nat} {t : TypeId} {a : Array Value} (h : CRow base w v cs) (ho : Only w w' gs) (hB : Blk w gs t a) (ht : t ≠ 32) : CRow base w' v cs :=
  World.ownsRow.kept h ho (.inr (owns_ne_ty h hB ht).symm)
theorem BoolsAt.only {base : Nat} {w w' : World} {v : Value} {l : List Bool} {gs : Nat} (h : BoolsAt base w v l) (ho : Only w w' gs) (hg : base ≤ gs) : BoolsAt base w' v l := by
  obtain ⟨p, c, e, h | ⟨b, o, hb, hp, h⟩⟩ := h
  · exact ⟨p, c, e, .inl h⟩
  · refine ⟨p, c, e, .inr ⟨b, o, hb, hp, fun i hi => ?_⟩⟩
    have h2 := h i hi
    have hlt := World.block_lt_of_cell? w ⟨b, o + i, none⟩ h2
    rw [World.cell?_of_block (a := ⟨b, o + i, none⟩) (ho.block b hlt (by intro e; cases e; omega)), h2]
end Go.Proofs.Ytkbjmgenceghlaa
