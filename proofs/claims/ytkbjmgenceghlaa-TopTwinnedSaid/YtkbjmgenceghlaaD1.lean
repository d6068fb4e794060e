/- A disk as it lies in memory, and what a callee leaves as it was; what 'none', 'may', 'burns', 'Len' and 'Fuse' answer of such a disk. -/
import Derived.Test.YtkbjmgenceghlaaW9
import Derived.Laws.AppendOwn
namespace Go.Proofs.Ytkbjmgenceghlaa
open Go.RowKit
namespace Pm
/-- a disk: what is sure, what is loose, its fuse -/
structure Dk where
  sure : List (List UInt8)
  loose : List (Nat × List UInt8)
  fuse : Int
/-- what holds of a disk -/
structure DkOk (D : Dk) : Prop where
  many : 1 ≤ D.sure.length
  bound : D.sure.length ≤ 16384
  secs : ∀ s ∈ D.sure, s.length = 128
  at_ : ∀ x ∈ D.loose, x.1 < D.sure.length ∧ x.2.length = 128
  few : D.loose.length ≤ 1000000
  fuseLo : -1 ≤ D.fuse
  fuseHi : D.fuse ≤ 1000000
end Pm
def secCells (s : List UInt8) : List Value := s.map fun b => .int .u8 (b.toNat : Int)
def sureCells (l : List (List UInt8)) : List Value := l.flatMap secCells
def wrCells (x : Nat × List UInt8) : List Value := .int .i64 (x.1 : Int) :: secCells x.2
def looseCells (l : List (Nat × List UInt8)) : List Value := l.flatMap wrCells
/-- the types that only a disk's blocks have -/
def diskType (t : TypeId) : Bool := t == 63 || t == 91 || t == 93
/-- nothing below base has turned, and none but a disk's blocks -/
structure Kept (base : Nat) (w w' : World) : Prop where
  os : w'.os = w.os
  tape : w'.tape = w.tape
  output : w'.output = w.output
  size : w.heap.size ≤ w'.heap.size
  block : ∀ k, k < w.heap.size → (k < base ∨ ∀ cs t fr, w.heap[k]? = some (.cells cs t fr) → diskType t = false) → w'.heap[k]? = w.heap[k]?
theorem Kept.refl (base : Nat) (w : World) : Kept base w w := ⟨rfl, rfl, rfl, Nat.le_refl _, fun _ _ _ => rfl⟩
theorem Kept.trans {base : Nat} {a b c : World} (h : Kept base a b) (k : Kept base b c) : Kept base a c :=
  ⟨k.os.trans h.os, k.tape.trans h.tape, k.output.trans h.output, Nat.le_trans h.size k.size, fun i hi hc => by
    have h1 := h.block i hi hc
    rw [← h1]
    exact k.block i (Nat.lt_of_lt_of_le hi h.size) (hc.imp id fun g cs t fr e => g cs t fr (by rw [← h1]; exact e))⟩
theorem Kept.below {base : Nat} {a b : World} (h : Below a.heap.size a b) : Kept base a b :=
  ⟨h.os, h.tape, h.output, h.size, fun i hi _ => h.block i hi⟩
theorem Kept.toBelow {a b : World} (h : Kept a.heap.size a b) : Below a.heap.size a b :=
  ⟨h.os, h.tape, h.output, h.size, fun i hi => h.block i hi (.inl hi)⟩
theorem Kept.blk {base : Nat} {a b : World} {g : Nat} {t : TypeId} {cs : Array Value} (h : Kept base a b) (k : Blk a g t cs) (ht : diskType t = false) : Blk b g t cs :=
  (h.block g k.lt (.inr fun cs' t' fr e => by
    unfold Blk at k
    rw [k] at e
    injection e with e
    injection e with _ e _
    rw [← e]; exact ht)).trans k
/-- a disk lies there -/
structure IsDisk (w : World) (base d : Nat) (D : Pm.Dk) : Prop where
  ok : Pm.DkOk D
  ex : ∃ (S : Nat) (lv : Value), base ≤ d ∧ Blk w d 63 #[.slice (some ⟨S, 0, none⟩) D.sure.length D.sure.length, lv, .int .i64 D.fuse] ∧
    w.ownsRow base 91 128 (.slice (some ⟨S, 0, none⟩) D.sure.length D.sure.length) D.sure.length (sureCells D.sure) ∧ w.ownsRow base 93 129 lv D.loose.length (looseCells D.loose)
set_option maxRecDepth 100000 in
set_option maxHeartbeats 1000000 in
theorem none_any (w : World) (base d : Nat) (D : Pm.Dk) (h : IsDisk w base d D) :
    Calls Try.prog 29 #[.pointer (some ⟨d, 0, none⟩)] w fun e w' => e = .returned (.bool false) ∧ w = w' := by
  obtain ⟨S, lv, hd, hB, hS, hL⟩ := h.ex
  have hok := h.ok.many
  have cB := hB.cell
  have hne : ((D.sure.length : Int) == 0) = false := beq_eq_false_iff_ne.2 (by omega)
  clear hS hL h
  go_enter Try.func29, Try.ntmps29
  go_wp2
  go_ret
  exact ⟨rfl, rfl⟩
theorem Pm.DkOk.fuse {D : Pm.Dk} (h : Pm.DkOk D) (n : Int) (h1 : -1 ≤ n) (h2 : n ≤ 1000000) : Pm.DkOk { D with fuse := n } := ⟨h.many, h.bound, h.secs, h.at_, h.few, h1, h2⟩
theorem owned_ne {w : World} {base g : Nat} {t e : TypeId} {size : Nat} {cs : Array Value} {v : Value} {n : Nat} {xs : List Value} (hB : Blk w g t cs) (h : w.ownsRow base e size v n xs) (hne : t ≠ e) : v.ownBlock ≠ some g := by
  rcases h.2 with ⟨rfl, _⟩ | ⟨k, cap, cur, rfl, _, hk, _⟩
  · simp [Value.ownBlock]
  · intro e'
    simp only [Value.ownBlock, Option.some.injEq] at e'
    subst e'
    unfold Blk at hB
    rw [hB] at hk
    injection hk with hk
    injection hk with _ hk _
    exact hne hk
theorem kept_set {w : World} {base g : Nat} {t : TypeId} {cs : Array Value} (hB : Blk w g t cs) (ht : diskType t = true) (hb : base ≤ g) (i : Nat) (u : Value) : Kept base w (w.setCell ⟨g, i, none⟩ u) := by
  have h := (Only.refl w g).set_ i u
  refine ⟨h.os, h.tape, h.output, h.size, fun k hk hc => h.block k hk ?_⟩
  intro e
  cases e
  rcases hc with hc | hc
  · omega
  · have := hc _ _ _ hB
    rw [ht] at this
    cases this
theorem IsDisk.setFuse {w : World} {base d : Nat} {D : Pm.Dk} (h : IsDisk w base d D) (n : Int) (h1 : -1 ≤ n) (h2 : n ≤ 1000000) :
    IsDisk (w.setCell ⟨d, 2, none⟩ (.int .i64 n)) base d { D with fuse := n } ∧ Kept base w (w.setCell ⟨d, 2, none⟩ (.int .i64 n)) := by
  obtain ⟨S, lv, hd, hB, hS, hL⟩ := h.ex
  have ho := (Only.refl w d).set_ 2 (.int .i64 n)
  refine ⟨⟨h.ok.fuse n h1 h2, S, lv, hd, ?_, hS.kept ho (.inr (owned_ne hB hS (by decide))), hL.kept ho (.inr (owned_ne hB hL (by decide)))⟩, kept_set hB rfl hd 2 _⟩
  have := hB.set_ 2 (.int .i64 n)
  simpa only [List.setIfInBounds_toArray, List.set_cons_succ, List.set_cons_zero] using this
set_option maxRecDepth 100000 in
set_option maxHeartbeats 1000000 in
theorem may_any (w : World) (base d : Nat) (D : Pm.Dk) (h : IsDisk w base d D) :
    Calls Try.prog 55 #[.pointer (some ⟨d, 0, none⟩)] w fun e w' => e = .returned (.int .i64 (if D.fuse = 0 then 40 else 0)) ∧ w = w' := by
  have HN := Lib.hid (none_any w base d D h)
  obtain ⟨S, lv, hd, hB, hS, hL⟩ := h.ex
  have cB := hB.cell
  clear hS hL h
  by_cases h0 : D.fuse = 0
  · rw [if_pos h0]
    have hz : (D.fuse == 0) = true := by simp [h0]
    clear h0
    go_enter Try.func55, Try.ntmps55
    go_wp2_with fail
    refine (HN.out).mono ?_
    rintro e w1 ⟨rfl, rfl⟩
    go_wp2_with fail
    go_ret
    exact ⟨rfl, rfl⟩
  · rw [if_neg h0]
    have hz : (D.fuse == 0) = false := by simp [h0]
    clear h0
    go_enter Try.func55, Try.ntmps55
    go_wp2_with fail
    refine (HN.out).mono ?_
    rintro e w1 ⟨rfl, rfl⟩
    go_wp2_with fail
    go_ret
    exact ⟨rfl, rfl⟩
def Pm.burn (n : Int) : Int := if 0 < n then n - 1 else n
set_option maxRecDepth 100000 in
set_option maxHeartbeats 1000000 in
theorem burns_any (w : World) (base d : Nat) (D : Pm.Dk) (h : IsDisk w base d D) :
    Calls Try.prog 60 #[.pointer (some ⟨d, 0, none⟩)] w fun e w' => e = .returned (.tuple #[]) ∧ IsDisk w' base d { D with fuse := Pm.burn D.fuse } ∧ Kept base w w' := by
  have h1 := h.ok.fuseLo
  have h2 := h.ok.fuseHi
  have HD := Lib.hid h
  obtain ⟨S, lv, hd, hB, hS, hL⟩ := h.ex
  have cB := hB.cell
  have fB := hB.frozen
  clear hS hL h
  by_cases h0 : 0 < D.fuse
  · have hw : IntKind.i64.wrap (D.fuse - 1) = D.fuse - 1 := IntWalk.i64_in _ (by omega)
    have hd0 : decide (0 < D.fuse) = true := by simpa using h0
    have e : Pm.burn D.fuse = D.fuse - 1 := by unfold Pm.burn; rw [if_pos h0]
    rw [e]
    have HS := Lib.hid (HD.out.setFuse (D.fuse - 1) (by omega) (by omega))
    clear e
    go_enter Try.func60, Try.ntmps60
    go_wp2
    go_end0
    exact ⟨rfl, HS.out.1, HS.out.2⟩
  · have hd0 : decide (0 < D.fuse) = false := by simpa using h0
    have e : Pm.burn D.fuse = D.fuse := by unfold Pm.burn; rw [if_neg h0]
    rw [e]
    clear e
    go_enter Try.func60, Try.ntmps60
    go_wp2
    go_end0
    exact ⟨rfl, HD.out, Kept.refl _ _⟩
end Go.Proofs.Ytkbjmgenceghlaa
