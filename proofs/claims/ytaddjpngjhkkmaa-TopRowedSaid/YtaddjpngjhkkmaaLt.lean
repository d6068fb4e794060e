/- The parts of the law: what the code answers, as lemmas for every input that their premises allow; a part of the proof of TopRowed. -/
import Derived.Test.YtaddjpngjhkkmaaW17
namespace Go.Proofs.Ytaddjpngjhkkmaa
open Go.RowKit
/-- what stands behind the first n statements -/
def codeDrop : Nat → Code → Code
  | 0, c => c
  | n + 1, .seq _ b => codeDrop n b
  | _ + 1, c => c
noncomputable def lawTail (n : Nat) : Code := codeDrop n ((Try.f3.body).getD .skip)
def codeFst : Code → Code
  | .seq a _ => a
  | c => c
/-- the way has come to its end, with just this frame and world -/
inductive AtEnd (A : Act) (W : World) : Exit → Act → World → Prop
  | mk : AtEnd A W .normal A W
theorem wp_end {P : Program} {c : Code} {A : Act} {W : World} {Q : Exit → Act → World → Prop} {a : Act} {w : World}
    (h : c.wp P (AtEnd A W) a w) (hq : Q .normal A W) : c.wp P Q a w := wp_mono h fun _ _ _ h => by cases h; exact hq
end Go.Proofs.Ytaddjpngjhkkmaa
