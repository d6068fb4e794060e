/- What the law's walk carries: its disk, its sectors by hand, what came in; the law's code in pieces. -/
import Derived.Test.YtkbjmgenceghlaaU5
import Derived.Test.YtkbjmgenceghlaaP1
import Derived.Deep.CutBlock
namespace Go.Proofs.Ytkbjmgenceghlaa
open Go.RowKit
def cFst : Code → Code
  | .seq a _ => a
  | c => c
def cSnd : Code → Code
  | .seq _ b => b
  | c => c
def cBlk : Code → Code
  | .block _ b => b
  | c => c
def cLoop : Code → Code
  | .loop b => b
  | c => c
def cDrop : Nat → Code → Code
  | 0, c => c
  | n + 1, c => cDrop n (cSnd c)
noncomputable def lawBody : Code := (Try.f3.body).getD .skip
/-- the round over the acts -/
noncomputable def lawRound : Code := cBlk (cFst (cDrop 2 (cLoop (cBlk (cSnd (cFst (cDrop 8 lawBody)))))))
/-- the round over the fuses -/
noncomputable def fixRound : Code := cBlk (cFst (cDrop 2 (cLoop (cBlk (cDrop 13 lawRound)))))
/-- every block but a disk's and one is as it was -/
def Quiet (gs : Nat) (w w' : World) : Prop := ∀ g t cs, Blk w g t cs → diskType t = false → g ≠ gs → Blk w' g t cs
theorem Quiet.refl (gs : Nat) (w : World) : Quiet gs w w := fun _ _ _ h _ _ => h
theorem Quiet.trans {gs : Nat} {a b c : World} (h : Quiet gs a b) (k : Quiet gs b c) : Quiet gs a c := fun g t cs hB ht hg => k g t cs (h g t cs hB ht hg) ht hg
theorem Quiet.kept {base gs : Nat} {w w' : World} (h : Kept base w w') : Quiet gs w w' := fun _ _ _ hB ht _ => h.blk hB ht
theorem Quiet.below {gs : Nat} {w w' : World} (h : Below w.heap.size w w') : Quiet gs w w' := fun _ _ _ hB _ _ => hB.after h
theorem Quiet.only {gs : Nat} {w w' : World} (h : Only w w' gs) : Quiet gs w w' := fun _ _ _ hB _ hg => hB.grown h (fun e => hg (by cases e; rfl))
theorem owns_quiet {w w' : World} {base gs : Nat} {e : TypeId} {size : Nat} {v : Value} {n : Nat} {xs : List Value} {a : Array Value} (h : w.ownsRow base e size v n xs) (q : Quiet gs w w') (hB : Blk w gs 9 a) (he : diskType e = false) (he9 : (9 : TypeId) ≠ e) : w'.ownsRow base e size v n xs := by
  refine ⟨h.1, ?_⟩
  rcases h.2 with hn | ⟨g, cap, cur, rfl, hb, hgg, rest⟩
  · exact .inl hn
  · exact .inr ⟨g, cap, cur, rfl, hb, q g e cur hgg he (fun e' => by subst e'; exact hB.ne_ hgg he9 rfl), rest⟩
/-- what stands between two rounds -/
structure LawAt (base : Nat) (w0 w : World) (d bx gs bk : Nat) (kv : Value) (keep : List Bool) (D : Pm.Dk) (u : List (List UInt8)) : Prop where
  disk : IsDisk w base d D
  sure : SureAt w bx gs u
  box : Blk w bk 23 #[kv]
  keep : BoolsAt base w kv keep
  hgs : base ≤ gs
  hb0 : base ≤ w0.heap.size
  below : Below base w0 w
section
variable {base : Nat} {w0 w w' : World} {d bx gs bk : Nat} {kv : Value} {keep : List Bool} {D D' : Pm.Dk} {u u' : List (List UInt8)}
theorem LawAt.hbw (h : LawAt base w0 w d bx gs bk kv keep D u) : base ≤ w.heap.size := Nat.le_trans h.hb0 h.below.size
theorem LawAt.kept (h : LawAt base w0 w d bx gs bk kv keep D u) (k : Kept base w w') (hD : IsDisk w' base d D') : LawAt base w0 w' d bx gs bk kv keep D' u :=
  ⟨hD, ⟨k.blk h.sure.box rfl, k.blk h.sure.row rfl⟩, k.blk h.box rfl, h.keep.kept k, h.hgs, h.hb0,
    ⟨k.os.trans h.below.os, k.tape.trans h.below.tape, k.output.trans h.below.output, Nat.le_trans h.below.size k.size, fun i hi => (k.block i (Nat.lt_of_lt_of_le hi h.hbw) (.inl hi)).trans (h.below.block i hi)⟩⟩
theorem LawAt.after (h : LawAt base w0 w d bx gs bk kv keep D u) (k : Below w.heap.size w w') : LawAt base w0 w' d bx gs bk kv keep D u := h.kept (Kept.below k) (h.disk.below k)
theorem LawAt.only (h : LawAt base w0 w d bx gs bk kv keep D u) (k : Only w w' gs) (hu : SureAt w' bx gs u') : LawAt base w0 w' d bx gs bk kv keep D u' :=
  ⟨h.disk.kept k (fun g cs t fr e hB => by
      cases e
      have h1 := h.sure.row
      unfold Blk at h1
      rw [h1] at hB
      injection hB with hB
      injection hB with _ hB _
      subst hB
      rfl), hu, h.box.grown k (fun e => by cases e; exact h.box.ne_ h.sure.row (by decide) rfl), h.keep.only k h.hgs, h.hgs, h.hb0,
    ⟨k.os.trans h.below.os, k.tape.trans h.below.tape, k.output.trans h.below.output, Nat.le_trans h.below.size k.size, fun i hi => (k.block i (Nat.lt_of_lt_of_le hi h.hbw) (fun e => by cases e; have := h.hgs; omega)).trans (h.below.block i hi)⟩⟩
/-- what an append of the caller's own leaves -/
theorem LawAt.grown {row : Option Nat} (h : LawAt base w0 w d bx gs bk kv keep D u) (k : w.grownBy w' row) {e : TypeId} {b : Nat} {size n : Nat} {v : Value} {xs : List Value} (hv : w.ownsRow b e size v n xs) (hrow : row = v.ownBlock) (hb : base ≤ b) (he : diskType e = false) (h9 : e ≠ 9) (h28 : e ≠ 28) (h23 : e ≠ 23) : LawAt base w0 w' d bx gs bk kv keep D u := by
  subst hrow
  have hne : ∀ {g : Nat} {t : TypeId} {cs : Array Value}, Blk w g t cs → t ≠ e → some g ≠ v.ownBlock := fun hB ht => owns_ne_ty hv hB ht
  refine ⟨h.disk.kept k (fun g cs t fr e' hB => ?_), ⟨h.sure.box.grown k (hne h.sure.box h28.symm), h.sure.row.grown k (hne h.sure.row h9.symm)⟩, h.box.grown k (hne h.box h23.symm), ?_, h.hgs, h.hb0, h.below.grown k h.hbw (fun r hr => Nat.le_trans hb (hv.lt r hr).1)⟩
  · obtain ⟨_, _, _, _, hB', _⟩ := owns_blk hv e'
    unfold Blk at hB'
    rw [hB'] at hB
    injection hB with hB
    injection hB with _ hB _
    subst hB
    exact he
  · obtain ⟨p, c, e1, hk | ⟨b', o, hb', hp, hk⟩⟩ := h.keep
    · exact ⟨p, c, e1, .inl hk⟩
    · refine ⟨p, c, e1, .inr ⟨b', o, hb', hp, fun i hi => ?_⟩⟩
      have h2 := hk i hi
      have hlt := World.block_lt_of_cell? w ⟨b', o + i, none⟩ h2
      rw [World.cell?_of_block (a := ⟨b', o + i, none⟩) (k.block b' hlt (fun e2 => by have := (hv.lt b' e2.symm).1; omega)), h2]
theorem quiet_grown {row : Option Nat} {gs : Nat} (k : w.grownBy w' row) (g : Nat) (t : TypeId) (cs : Array Value) (hB : Blk w g t cs) (hne : some g ≠ row) : Blk w' g t cs := hB.grown k hne
end
/-- joined with nothing between -/
theorem join_flat (l : List (List UInt8)) : Lib.join l [] = l.flatten := by
  induction l with
  | nil => rfl
  | cons x l ih =>
    cases l with
    | nil => simp [Lib.join]
    | cons y l =>
      simp only [Lib.join] at ih ⊢
      simp [ih]
/-- an append, and where what comes of it lies -/
theorem run_append_where {P : Program} (w : World) (base : Nat) (t ty e : TypeId) (i : TypeInfo) (z : Value) (size bytes : Nat) (ht : P.underlying t = some (.slice e)) (hi : P.info? e = some i) (hz : i.zero = some z)
    (hsize : i.size = size) (hby : i.bytes = bytes) (hzs : z.cells.size = size) (hsz : 0 < size)
    (v : Value) (n : Nat) (xs : List Value) (hown : w.ownsRow base e size v n xs)
    (a : Addr) (m c : Nat) (news : List Value) (hl : news.length = m * size) (hnews : ∀ j u, news[j]? = some u → w.cell? (a.add j) = some u) (h1 : ∀ u ∈ news, u.oneCell' = true)
    (h63 : n + m ≤ maxLen) (hbytes : (n + m) * bytes ≤ 140737488355328) (hbase : base ≤ w.heap.size) (hm : 0 < m) :
    ∃ v' w', (Builtin.append_ #[t, t] ty #[v, .slice (some a) m c]).run P w = .ok v' w' ∧ w'.ownsRow base e size v' (n + m) (xs ++ news) ∧ w.grownBy w' v.ownBlock ∧ (v'.ownBlock = v.ownBlock ∨ v'.ownBlock = some w.heap.size) := by
  obtain ⟨v', w', hr, h2, h3, h4⟩ := run_append_own (P := P) w base t ty e i z size bytes ht hi hz hsize hby hzs hsz v n xs hown a m c news hl hnews h1 h63 hbytes hbase
  refine ⟨v', w', hr, h2, h3, ?_⟩
  subst hsize
  subst hby
  have hsmall : n + m ≤ 9223372036854775807 := by simp only [maxLen] at h63; omega
  rcases hown.2 with ⟨rfl, rfl⟩ | ⟨g, cap, cur, rfl, hbg, hg, hnc, hcm, hcs, htake⟩
  · have hx : xs = [] := List.eq_nil_of_length_eq_zero (by simpa using hown.1)
    subst hx
    have hr2 := run_append_nil (P := P) w t ty e i z ht hi hz a m c news hl hnews (by omega) (by omega) (by have hb := hbytes; simp only [Nat.zero_add] at hb; omega)
    rw [hr] at hr2
    injection hr2 with e1 _
    subst e1
    exact .inr rfl
  · by_cases hroom : n + m ≤ cap
    · have hfit : n * i.size + news.length ≤ cur.size := by rw [hl, hcs, ← Nat.add_mul]; exact Nat.mul_le_mul_right _ hroom
      have hr2 := run_append_room (P := P) w t ty e i ht hi g n cap cur hg a m c news hl hnews h1 hroom hfit
      rw [hr] at hr2
      injection hr2 with e1 _
      subst e1
      exact .inl rfl
    · have holds : ∀ j u, xs[j]? = some u → w.cell? ((⟨g, 0, none⟩ : Addr).add j) = some u := hown.cells (g := g) rfl
      have hr2 := run_append_grow (P := P) w t ty e i z ht hi hz ⟨g, 0, none⟩ n cap xs hown.1 holds a m c news hl hnews (by omega) (by omega) (growslice_fits (by omega) hbytes)
      rw [hr] at hr2
      injection hr2 with e1 _
      subst e1
      exact .inr rfl
/-- one more call behind calls by hand, and where they lie -/
theorem wpList_append_call {ops : Array Oper} {rest : List Oper} {o : Oper} {a : Act} {Q : Exit → Act → World → Prop} (w : World) (hgd : o.guard = none) (s x : Operand) (ho : o.op = .call { callee := .builtin .append, args := #[s, x], argTypes := #[30, 30] })
    (B B2 : Nat) (v1 v2 : Value) (cs1 cs2 : List Pm.Cl) (hs : a.eval s = v1) (hx : a.eval x = v2) (h1 : CRow B w v1 cs1) (h2 : CRow B2 w v2 cs2) (hne : 0 < cs2.length) (hB : B ≤ w.heap.size) (hlen : cs1.length + cs2.length ≤ 100000)
    (h : ∀ v' w', CRow B w' v' (cs1 ++ cs2) → w.grownBy w' v1.ownBlock → (v'.ownBlock = v1.ownBlock ∨ v'.ownBlock = some w.heap.size) → wpList Try.prog ops Q rest (a.put o.dst v') w') : wpList Try.prog ops Q (o :: rest) a w := by
  obtain ⟨i0, z, hi, hz, hz0, hz1, hz2⟩ := info32
  obtain ⟨m, hm⟩ : ∃ m, cs2.length = m + 1 := ⟨cs2.length - 1, by omega⟩
  have h2' : w.ownsRow B2 32 2 v2 (m + 1) (cs2.flatMap clCells) := by rw [← hm]; exact h2
  obtain ⟨g, cap, rfl⟩ := owns_succ h2'
  obtain ⟨v', w', hr, g1, g2, g3⟩ := run_append_where (P := Try.prog) w B 30 o.type 32 i0 z 2 24 Try.underlying30 hi hz hz0 hz1 hz2 (by decide) v1 cs1.length (cs1.flatMap clCells) h1 ⟨g, 0, none⟩ (m + 1) cap (cs2.flatMap clCells) (by rw [crow_len]; omega) (fun j u hu => h2'.cells (g := g) rfl j u hu) (fun u hu => crow_one hu) (by unfold maxLen; omega) (by omega) hB (by omega)
  refine wpList_plain hgd fun _ hK => ?_
  unfold Oper.wp execOp
  simp only [ho, resolve, invoke, builtin, Sem.run_bind, Sem.run_pure, Result.andThen_ok, List.map_toArray, List.map_cons, List.map_nil, hs, hx, hr]
  refine hK _ _ (h v' w' ?_ g2 g3)
  unfold CRow
  rw [List.length_append, hm, List.flatMap_append]
  exact g1
end Go.Proofs.Ytkbjmgenceghlaa
