/- Two that may come up in either order; literals of calls. -/
import Derived.Test.YtkbjmgenceghlaaV2
import Derived.Great.BuildSlice
namespace Go.Proofs.Ytkbjmgenceghlaa
open Go.RowKit
section
variable {P : Program} {ops : Array Oper} {Q : Exit → Act → World → Prop} {md : Region.Mode} {S : World → Prop} {n : Nat}
/-- what one that came up must do -/
def PickP (P : Program) (md : Region.Mode) (ops : Array Oper) (Q : Exit → Act → World → Prop) (S : World → Prop) (n fuel : Nat) (listed : Array Bool) (i : Nat) (a : Act) (w : World) : Prop :=
  wpOp P ops Q i (fun a' w' => (i < n → S w') ∧ wpAnyP P md ops Q S n fuel (listed.setIfInBounds i true) a' w') a w
theorem wpAnyP_two (i j : Nat) {fuel : Nat} {listed : Array Bool} {a : Act} {w : World} (hr : Region.ready md ops listed = [i, j]) (h1 : PickP P md ops Q S n fuel listed i a w) (h2 : PickP P md ops Q S n fuel listed j a w) : wpAnyP P md ops Q S n (fuel + 1) listed a w := by
  refine ⟨fun h0 => (by rw [hr] at h0; cases h0), fun k hk => ?_⟩
  rw [hr] at hk
  rcases List.mem_cons.1 hk with rfl | hk
  · exact h1
  · obtain rfl := List.mem_singleton.1 hk
    exact h2
theorem pick_runs {i : Nat} (dst : Option Tmp) {oi : Oper} {v : Value} {w1 : World} {fuel : Nat} {listed : Array Bool} {a : Act} {w : World} (hi : ops[i]? = some oi) (hd : oi.dst = dst) (hg : Region.wanted oi (yielded ops a.tmps) = true)
    (hv : (execOp a.eval oi).run P w = .ok (.value v) w1) (hS : i < n → S w1)
    (h : wpAnyP P md ops Q S n fuel (listed.setIfInBounds i true) (a.put dst v) w1) : PickP P md ops Q S n fuel listed i a w := by
  refine wpOp_step hi fun K' hK => ?_
  rw [if_pos hg]
  subst hd
  unfold Oper.wp
  rw [hv]
  exact hK _ _ ⟨hS, h⟩
theorem pick_calls {i : Nat} (dst : Option Tmp) {oi : Oper} {g : FuncId} {vs : Array Value} {R : Ending → World → Prop} {fuel : Nat} {listed : Array Bool} {a : Act} {w : World} (hi : ops[i]? = some oi) (hd : oi.dst = dst) (hg : Region.wanted oi (yielded ops a.tmps) = true)
    (hx : (execOp a.eval oi).run P w = .ok (.enter g vs) w) (hc : Calls P g vs w R)
    (hR : ∀ e w', R e w' → ∃ v, e = .returned v ∧ (i < n → S w') ∧ wpAnyP P md ops Q S n fuel (listed.setIfInBounds i true) (a.put dst v) w') : PickP P md ops Q S n fuel listed i a w := by
  refine wpOp_step hi fun K' hK => ?_
  rw [if_pos hg]
  subst hd
  unfold Oper.wp
  rw [hx]
  refine hc.mono fun e w' he => ?_
  obtain ⟨v, rfl, hS, hW⟩ := hR e w' he
  exact hK _ _ ⟨hS, hW⟩
end
def clAgg (k : Int) (s : ByteArray) : Value := .agg #[.int .i64 k, .string s]
theorem run_lit30 (w : World) (i j k : Int) (r s t : ByteArray) : (Instr.buildSlice 30 3 #[(0, .agg #[.int .i64 i, .string r]), (1, .agg #[.int .i64 j, .string s]), (2, .agg #[.int .i64 k, .string t])]).run Try.prog w = .ok (.slice (some ⟨w.heap.size, 0, none⟩) 3 3) (w.alloc (.cells #[.int .i64 i, .string r, .int .i64 j, .string s, .int .i64 k, .string t] 32)) := by
  go_simp
theorem run_lit80 (w : World) (a b c d : Option Addr) (i j k l i' j' k' l' : Nat) : (Instr.buildSlice 80 4 #[(0, .slice a i i'), (1, .slice b j j'), (2, .slice c k k'), (3, .slice d l l')]).run Try.prog w = .ok (.slice (some ⟨w.heap.size, 0, none⟩) 4 4) (w.alloc (.cells #[.slice a i i', .slice b j j', .slice c k k', .slice d l l'] 30)) := by
  go_simp
theorem run_build32 (w : World) (j : Int) (s : ByteArray) : (Instr.build 32 #[(0, .int .i64 j), (1, .string s)]).run Try.prog w = .ok (.agg #[.int .i64 j, .string s]) w := by
  go_simp
end Go.Proofs.Ytkbjmgenceghlaa
