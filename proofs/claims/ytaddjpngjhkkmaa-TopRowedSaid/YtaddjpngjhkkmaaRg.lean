/-
  Statements that draw their order: what is known of some blocks, step by step.
-/
import Derived.Test.YtaddjpngjhkkmaaMem
import Derived.Deep.RegionHeld3
namespace Go.Proofs.Ytaddjpngjhkkmaa
open Go.RowKit
/-- these blocks are known whole -/
def BlkL : List (Nat × TypeId × Array Value) → World → Prop
  | [], _ => True
  | x :: l, w => Blk w x.1 x.2.1 x.2.2 ∧ BlkL l w
section
variable {l : List (Nat × TypeId × Array Value)} {w w' : World}
theorem BlkL.drew (h : BlkL l w) : BlkL l w.drew := by
  induction l with
  | nil => trivial
  | cons x l ih => exact ⟨h.1.drew, ih h.2⟩
theorem BlkL.alloc (h : BlkL l w) (o : Obj) : BlkL l (w.alloc o) := by
  induction l with
  | nil => trivial
  | cons x l ih => exact ⟨h.1.alloc o, ih h.2⟩
theorem BlkL.after (h : BlkL l w) (hb : Below w.heap.size w w') : BlkL l w' := by
  induction l with
  | nil => trivial
  | cons x l ih => exact ⟨h.1.after hb, ih h.2⟩
theorem BlkL.far (h : BlkL l w) (p : Addr) (hne : ∀ x ∈ l, x.1 ≠ p.block) (v : Value) : BlkL l (w.setCell p v) := by
  induction l with
  | nil => trivial
  | cons x l ih => exact ⟨h.1.far (hne x (by simp)) v, ih h.2 (fun y hy => hne y (by simp [hy]))⟩
theorem BlkL.new (h : BlkL l w) (t : TypeId) (cs : Array Value) : BlkL ((w.heap.size, t, cs) :: l) (w.alloc (.cells cs t)) := ⟨Blk.new w t cs, h.alloc _⟩
theorem BlkL.new1 (h : BlkL l w) (o : Obj) (t : TypeId) (cs : Array Value) (h' : BlkL l (w.alloc o)) : BlkL ((w.heap.size + 1, t, cs) :: l) ((w.alloc o).alloc (.cells cs t)) := by
  have k := Blk.new (w.alloc o) t cs
  simp at k
  exact ⟨k, h'.alloc _⟩
end
section
variable {P : Program} {ops : Array Oper} {Q : Exit → Act → World → Prop} {md : Region.Mode} {S1 S2 : World → Prop}
/-- more may be known from here on -/
theorem wpAnyH_mono (h : ∀ w, S1 w → S2 w) : ∀ (fuel : Nat) (listed : Array Bool) (a : Act) (w : World), wpAnyH P md ops Q S1 fuel listed a w → wpAnyH P md ops Q S2 fuel listed a w
  | 0, _, _, _, k => k
  | fuel + 1, _, _, _, k => ⟨k.1, fun i hi => wpOp_mono (fun a' w' h' => ⟨h w' h'.1, wpAnyH_mono h fuel _ a' w' h'.2⟩) (k.2 i hi)⟩
end
end Go.Proofs.Ytaddjpngjhkkmaa
