/- An undo record: its next number: what the code answers, as lemmas for every input that their premises allow; a part of the proof of TopRowed. -/
import Derived.Test.YtaddjpngjhkkmaaW10
namespace Go.Proofs.Ytaddjpngjhkkmaa
open Go.RowKit
attribute [local go_sem ↓] Go.wp_at_zero Go.wp_at_succ
attribute [local go_sem ↓] add_short
/-- a world behind which only two blocks, and what is new, have turned -/
structure Only2 (a w : World) (g h : Nat) : Prop where
  os : w.os = a.os
  tape : w.tape = a.tape
  output : w.output = a.output
  size : a.heap.size ≤ w.heap.size
  block : ∀ k, k < a.heap.size → k ≠ g → k ≠ h → w.heap[k]? = a.heap[k]?
section
variable {a b c w : World} {g h : Nat}
theorem Only2.of_below (k : Below a.heap.size a w) : Only2 a w g h := ⟨k.os, k.tape, k.output, k.size, fun i hi _ _ => k.block i hi⟩
theorem Only2.set_l (k : Only2 a w g h) (i : Nat) (u : Value) : Only2 a (w.setCell ⟨g, i, none⟩ u) g h :=
  ⟨k.os, k.tape, k.output, by simpa [World.setCell] using k.size, fun j hj h1 h2 => (Below.heap_setCell w _ u j h1).trans (k.block j hj h1 h2)⟩
theorem Only2.set_r (k : Only2 a w g h) (i : Nat) (u : Value) : Only2 a (w.setCell ⟨h, i, none⟩ u) g h :=
  ⟨k.os, k.tape, k.output, by simpa [World.setCell] using k.size, fun j hj h1 h2 => (Below.heap_setCell w _ u j h2).trans (k.block j hj h1 h2)⟩
theorem Blk.only2 {t : TypeId} {cs : Array Value} {d : Nat} (h0 : Blk a d t cs) (k : Only2 a w g h) (h1 : d ≠ g) (h2 : d ≠ h) : Blk w d t cs := (k.block d h0.lt h1 h2).trans h0
theorem Blk.set1 {t : TypeId} {d : Nat} {u : Value} (k : Blk w d t #[u]) (v : Value) : Blk (w.setCell ⟨d, 0, none⟩ v) d t #[v] := by
  have h := k.set_ 0 v
  simpa using h
theorem bo2 (h0 : Below a.heap.size a b) (k : Only2 b c g h) (hg : a.heap.size ≤ g) (hh : a.heap.size ≤ h) : Below a.heap.size a c :=
  ⟨k.os.trans h0.os, k.tape.trans h0.tape, k.output.trans h0.output, Nat.le_trans h0.size k.size, fun i hi => (k.block i (Nat.lt_of_lt_of_le hi h0.size) (by omega) (by omega)).trans (h0.block i hi)⟩
end
set_option maxRecDepth 100000 in
set_option maxHeartbeats 2000000 in
theorem next37 (l : List UInt8) (a size : Nat) (b : Bool) (vs va vb : Nat) (w : World) (hl : l.length ≤ 1000000) (h1 : 1 ≤ size) (h8 : size ≤ 8) (ha : a ≤ 1000000)
    (hS : Blk w vs 9 #[.string ⟨l.toArray⟩]) (hA : Blk w va 3 #[.int .i64 a]) (hB : Blk w vb 4 #[.bool b]) :
    Calls Try.prog 37 #[.int .i64 size, .pointer (some ⟨vs, 0, none⟩), .pointer (some ⟨va, 0, none⟩), .pointer (some ⟨vb, 0, none⟩)] w fun e w' => e = .returned (.int .u64 (Pm.getN l a size : Nat)) ∧
      Blk w' va 3 #[.int .i64 ((a + size : Nat) : Int)] ∧ Blk w' vb 4 #[.bool (b && Pm.okN l a size)] ∧ Only2 w w' va vb := by
  have hab : va ≠ vb := hA.ne_ hB (by decide)
  have cs := hS.cell 0
  have ca := hA.cell 0
  have cb := hB.cell 0
  simp at cs ca cb
  have G := Lib.hid (get_any l a size w hl h1 h8 (by omega))
  cases b
  all_goals
    go_enter Try.func37, Try.ntmps37
    go_wp2_with fail
    refine G.out.mono ?_
    rintro e w1 ⟨rfl, hb1⟩
    have hA1 := hA.after hb1
    have hB1 := hB.after hb1
    have ca1 := hA1.cell 0
    have cb1 := hB1.cell 0
    have fa1 := hA1.frozen 0
    have fb1 := hB1.frozen 0
    simp at ca1 cb1
    go_wp2_with fail
    go_ret
    refine ⟨rfl, ?_, ?_, ((Only2.of_below hb1).set_r 0 _).set_l 0 _⟩
    · show Blk _ va 3 #[.int .i64 ((a : Int) + size)]
      exact (hA1.far (p := ⟨vb, 0, none⟩) hab _).set1 _
    · first | exact (hB1.set1 _).far (p := ⟨va, 0, none⟩) (Ne.symm hab) _ | (simp only [Bool.true_and, Bool.false_and]; exact (hB1.set1 _).far (p := ⟨va, 0, none⟩) (Ne.symm hab) _)
end Go.Proofs.Ytaddjpngjhkkmaa
