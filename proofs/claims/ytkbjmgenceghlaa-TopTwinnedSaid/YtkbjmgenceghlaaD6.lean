/- A sector's cells stored whole, a loose sector in a box; what is sure behind a loose sector that is kept. -/
import Derived.Test.YtkbjmgenceghlaaD5
namespace Go.Proofs.Ytkbjmgenceghlaa
open Go.RowKit
/-- cells with others put over them from o on -/
def spl (cs : Array Value) (o : Nat) : List Value → Array Value
  | [] => cs
  | v :: r => spl (cs.setIfInBounds o v) (o + 1) r
theorem spl_size : ∀ (vs : List Value) (cs : Array Value) (o : Nat), (spl cs o vs).size = cs.size
  | [], _, _ => rfl
  | v :: r, cs, o => by rw [spl, spl_size r]; simp
theorem spl_get : ∀ (vs : List Value) (cs : Array Value) (o j : Nat), (spl cs o vs)[j]? = if o ≤ j ∧ j < o + vs.length ∧ j < cs.size then vs[j - o]? else cs[j]?
  | [], cs, o, j => by rw [spl, if_neg (by simp; omega)]
  | v :: r, cs, o, j => by
    rw [spl, spl_get r]
    simp only [Array.size_setIfInBounds, List.length_cons]
    by_cases h : o = j
    · subst h
      rw [if_neg (by omega)]
      by_cases hs : o < cs.size
      · rw [if_pos ⟨Nat.le_refl _, by omega, hs⟩]; simp [hs]
      · rw [if_neg (by omega)]; simp [hs]
    · by_cases hin : o + 1 ≤ j ∧ j < o + 1 + r.length ∧ j < cs.size
      · rw [if_pos hin, if_pos (by omega), show j - o = (j - (o + 1)) + 1 by omega, List.getElem?_cons_succ]
      · rw [if_neg hin, if_neg (by omega)]; simp [h]
theorem spl_whole (vs : List Value) (cs : Array Value) (h : vs.length = cs.size) : spl cs 0 vs = vs.toArray := by
  apply Array.ext_getElem?
  intro j
  rw [spl_get]
  by_cases hj : j < cs.size
  · rw [if_pos (by omega)]; simp
  · rw [if_neg (by omega), Array.getElem?_eq_none (by omega), Array.getElem?_eq_none (by simp; omega)]
theorem Blk.cells {w : World} {g : Nat} {t : TypeId} : ∀ (vs : List Value) (cs : Array Value) (o : Nat) {w : World}, Blk w g t cs → Blk (w.setCells g o vs) g t (spl cs o vs)
  | [], _, _, _, h => h
  | v :: r, cs, o, _, h => by
    rw [World.setCells, spl]
    exact Blk.cells (w := w) r _ (o + 1) (h.set_ o v)
theorem Only.cells {a : World} {g : Nat} : ∀ (vs : List Value) (o : Nat) {w : World}, Only a w g → Only a (w.setCells g o vs) g
  | [], _, _, h => h
  | v :: r, o, _, h => by
    rw [World.setCells]
    exact Only.cells r (o + 1) (h.set_ o v)
theorem Blk.fill {w : World} {g : Nat} {t : TypeId} {cs : Array Value} (h : Blk w g t cs) (vs : List Value) (hl : vs.length = cs.size) : Blk (w.setCells g 0 vs) g t vs.toArray := by
  have := Blk.cells (w := w) vs cs 0 h
  rwa [spl_whole vs cs hl] at this
theorem Blk.there {w : World} {g : Nat} {t : TypeId} {cs : Array Value} (h : Blk w g t cs) (n : Nat) (hn : n ≤ cs.size) (o : Nat) (ho : o + n ≤ cs.size) : w.there g o n := fun j hj =>
  ⟨by rw [h.cell, Array.getElem?_eq_getElem (by omega)]; rfl, h.frozen _⟩
theorem Blk.range {w : World} {g : Nat} {t : TypeId} {cs : Array Value} (h : Blk w g t cs) (o : Nat) (vs : List Value) (hv : ∀ j, j < vs.length → cs[o + j]? = vs[j]?) : w.rangeAt g o vs := fun j v hj => by
  have hlt := (List.getElem?_eq_some_iff.1 hj).1
  rw [h.cell, hv j hlt, hj]
/-- an owned row's cells, as a block -/
theorem owns_blk {w : World} {base : Nat} {e : TypeId} {size : Nat} {v : Value} {n : Nat} {xs : List Value} {g : Nat} (h : w.ownsRow base e size v n xs) (hg : v.ownBlock = some g) :
    ∃ (cap : Nat) (cur : Array Value), v = .slice (some ⟨g, 0, none⟩) n cap ∧ base ≤ g ∧ Blk w g e cur ∧ n ≤ cap ∧ cap ≤ maxLen ∧ cur.size = cap * size ∧ cur.toList.take (n * size) = xs := by
  rcases h.2 with ⟨rfl, _⟩ | ⟨g', cap, cur, rfl, h1, h2, h3, h4, h5, h6⟩
  · simp [Value.ownBlock] at hg
  · simp [Value.ownBlock] at hg
    subst hg
    exact ⟨cap, cur, rfl, h1, h2, h3, h4, h5, h6⟩
theorem wrCells_len {x : Nat × List UInt8} (h : x.2.length = 128) : (wrCells x).length = 129 := by simp [wrCells, secCells_len, h]
theorem wrCells_one {x : Nat × List UInt8} : ∀ v ∈ wrCells x, v.oneCell' = true := fun v hv => by
  rcases List.mem_cons.1 hv with rfl | hv
  · rfl
  · exact secCells_one hv
/-- cell j of rows of size cells each -/
theorem rows_get {α : Type} (f : α → List Value) {size : Nat} (hs : 0 < size) : ∀ (l : List α), (∀ x ∈ l, (f x).length = size) → ∀ k j, j < size → (l.flatMap f)[k * size + j]? = (l[k]?).bind (fun x => (f x)[j]?)
  | [], _, k, j, _ => by simp
  | x :: l, h, k, j, hj => by
    have hx : (f x).length = size := h x (by simp)
    rw [List.flatMap_cons]
    cases k with
    | zero => rw [Nat.zero_mul, Nat.zero_add, List.getElem?_append_left (by omega)]; simp
    | succ k =>
      rw [List.getElem?_append_right (by rw [Nat.succ_mul]; omega), hx, show (k + 1) * size + j - size = k * size + j by rw [Nat.succ_mul]; omega, rows_get f hs l (fun y hy => h y (by simp [hy])) k j hj]
      simp
theorem rows_len {α : Type} (f : α → List Value) {size : Nat} (l : List α) (h : ∀ x ∈ l, (f x).length = size) : (l.flatMap f).length = l.length * size := by
  induction l with
  | nil => simp
  | cons x l ih => rw [List.flatMap_cons, List.length_append, ih (fun y hy => h y (by simp [hy])), h x (by simp), List.length_cons, Nat.succ_mul]; omega
/-- the part of a row that is part k -/
theorem rows_range {α : Type} {w : World} {g : Nat} {t : TypeId} {cur : Array Value} (f : α → List Value) {size n : Nat} (hs : 0 < size) (l : List α) (h : ∀ x ∈ l, (f x).length = size) (hB : Blk w g t cur) (hn : l.length = n) (ht : cur.toList.take (n * size) = l.flatMap f) (k : Nat) (hk : k < l.length) :
    w.rangeAt g (k * size) (f (l[k]'hk)) := by
  refine hB.range _ _ fun j hj => ?_
  have hj' : j < size := by rw [← h _ (List.getElem_mem hk)]; exact hj
  have h1 := rows_get f hs l h k j hj'
  have hlt : k * size + j < n * size := by
    have : (k + 1) * size ≤ n * size := Nat.mul_le_mul_right _ (by omega)
    rw [Nat.succ_mul] at this
    omega
  rw [← ht, List.getElem?_take, if_pos hlt] at h1
  rw [List.getElem?_eq_getElem hk] at h1
  simpa using h1
/-- part k of a row of rows, put anew -/
theorem rows_set {α : Type} (f : α → List Value) {size n : Nat} (hs : 0 < size) (l : List α) (h : ∀ x ∈ l, (f x).length = size) {cur : Array Value} (hn : l.length = n) (ht : cur.toList.take (n * size) = l.flatMap f) (k : Nat) (hk : k < l.length) (x : α) (hx : (f x).length = size) :
    (spl cur (k * size) (f x)).toList.take (n * size) = (l.set k x).flatMap f := by
  have hl2 : ∀ y ∈ l.set k x, (f y).length = size := fun y hy => by
    rcases List.mem_or_eq_of_mem_set hy with h2 | rfl
    · exact h y h2
    · exact hx
  have hlen := congrArg List.length ht
  rw [rows_len f l h, List.length_take, hn] at hlen
  have hcs : n * size ≤ cur.size := by simp at hlen; omega
  apply List.ext_getElem?
  intro i
  by_cases hi : i < n * size
  · obtain ⟨q, r, hr, rfl⟩ : ∃ q r, r < size ∧ i = q * size + r := ⟨i / size, i % size, Nat.mod_lt _ hs, by rw [Nat.mul_comm]; exact (Nat.div_add_mod i size).symm⟩
    rw [rows_get f hs _ hl2 q r hr, List.getElem?_take, if_pos hi, Array.getElem?_toList, spl_get, hx]
    by_cases hq : k = q
    · subst hq
      rw [if_pos ⟨by omega, by omega, by omega⟩, Nat.add_sub_cancel_left]
      simp [hk]
    · have hap : ¬ (k * size ≤ q * size + r ∧ q * size + r < k * size + size ∧ q * size + r < cur.size) := fun ⟨h1, h2, _⟩ => by
        rcases Nat.lt_or_ge q k with h3 | h3
        · have := Nat.mul_le_mul_right size (show q + 1 ≤ k by omega)
          rw [Nat.succ_mul] at this
          omega
        · have := Nat.mul_le_mul_right size (show k + 1 ≤ q by omega)
          rw [Nat.succ_mul] at this
          omega
      rw [if_neg hap]
      have h1 := rows_get f hs l h q r hr
      rw [← ht, List.getElem?_take, if_pos hi, Array.getElem?_toList] at h1
      rw [h1, List.getElem?_set_ne hq]
  · rw [List.getElem?_eq_none (by rw [List.length_take]; omega), List.getElem?_eq_none (by rw [rows_len f _ hl2, List.length_set, hn]; omega)]
/-- where a disk lies -/
structure DiskAt (w : World) (base d S : Nat) (lv : Value) (D : Pm.Dk) : Prop where
  hd : base ≤ d
  blk : Blk w d 63 #[.slice (some ⟨S, 0, none⟩) D.sure.length D.sure.length, lv, .int .i64 D.fuse]
  sure : w.ownsRow base 91 128 (.slice (some ⟨S, 0, none⟩) D.sure.length D.sure.length) D.sure.length (sureCells D.sure)
  loose : w.ownsRow base 93 129 lv D.loose.length (looseCells D.loose)
theorem IsDisk.at_ {w : World} {base d : Nat} {D : Pm.Dk} (h : IsDisk w base d D) : ∃ S lv, DiskAt w base d S lv D := by
  obtain ⟨S, lv, h1, h2, h3, h4⟩ := h.ex
  exact ⟨S, lv, h1, h2, h3, h4⟩
theorem DiskAt.is {w : World} {base d S : Nat} {lv : Value} {D : Pm.Dk} (h : DiskAt w base d S lv D) (ok : Pm.DkOk D) : IsDisk w base d D := ⟨ok, S, lv, h.hd, h.blk, h.sure, h.loose⟩
/-- what leaves the disk's three blocks leaves the disk -/
theorem DiskAt.kept {w w' : World} {base d S : Nat} {lv : Value} {D : Pm.Dk} (h : DiskAt w base d S lv D) {row : Option Nat} (hg : w.grownBy w' row) (hr : ∀ g cs t fr, row = some g → w.heap[g]? = some (.cells cs t fr) → diskType t = false) : DiskAt w' base d S lv D := by
  have hne : ∀ {g : Nat} {t : TypeId} {cs : Array Value}, Blk w g t cs → diskType t = true → some g ≠ row := fun hB ht e => by
    have := hr _ _ _ _ e.symm hB
    rw [ht] at this
    cases this
  have ho : ∀ {v : Value} {e : TypeId} {size n : Nat} {xs : List Value}, w.ownsRow base e size v n xs → diskType e = true → v.ownBlock = none ∨ v.ownBlock ≠ row := fun {v e size n xs} h he => by
    cases hv : v.ownBlock with
    | none => exact .inl rfl
    | some g =>
      obtain ⟨cap, cur, _, _, hB, _⟩ := owns_blk h hv
      exact .inr (hne hB he)
  exact ⟨h.hd, h.blk.grown hg (hne h.blk rfl), h.sure.kept hg (ho h.sure rfl), h.loose.kept hg (ho h.loose rfl)⟩
theorem DiskAt.below {w w' : World} {base d S : Nat} {lv : Value} {D : Pm.Dk} (h : DiskAt w base d S lv D) (hb : Below w.heap.size w w') : DiskAt w' base d S lv D :=
  h.kept (row := none) ⟨hb.os, hb.tape, hb.output, hb.size, fun k hk _ => hb.block k hk⟩ (fun _ _ _ _ e => by cases e)
theorem IsDisk.below {w w' : World} {base d : Nat} {D : Pm.Dk} (h : IsDisk w base d D) (hb : Below w.heap.size w w') : IsDisk w' base d D := by
  obtain ⟨S, lv, k⟩ := h.at_
  exact (k.below hb).is h.ok
theorem IsDisk.kept {w w' : World} {base d : Nat} {D : Pm.Dk} (h : IsDisk w base d D) {row : Option Nat} (hg : w.grownBy w' row) (hr : ∀ g cs t fr, row = some g → w.heap[g]? = some (.cells cs t fr) → diskType t = false) : IsDisk w' base d D := by
  obtain ⟨S, lv, k⟩ := h.at_
  exact (k.kept hg hr).is h.ok
/-- a sector is put -/
theorem DiskAt.stored {w : World} {base d S : Nat} {lv : Value} {D : Pm.Dk} (h : DiskAt w base d S lv D) (hsec : ∀ s ∈ D.sure, s.length = 128) (k : Nat) (hk : k < D.sure.length) (s : List UInt8) (hs : s.length = 128) :
    w.there S (k * 128) 128 ∧ DiskAt (w.setCells S (k * 128) (secCells s)) base d S lv { D with sure := D.sure.set k s } ∧ Kept base w (w.setCells S (k * 128) (secCells s)) := by
  obtain ⟨cap, cur, e, hbS, hB, h3, h4, h5, h6⟩ := owns_blk h.sure (g := S) rfl
  injection e with _ _ e
  subst e
  have hl : ∀ x ∈ D.sure, (secCells x).length = 128 := fun x hx => by rw [secCells_len]; exact hsec x hx
  have hO := (Only.refl w S).cells (secCells s) (k * 128)
  have hk2 : (k + 1) * 128 ≤ D.sure.length * 128 := Nat.mul_le_mul_right _ (by omega)
  rw [Nat.succ_mul] at hk2
  have hB2 := Blk.cells (w := w) (secCells s) cur (k * 128) hB
  refine ⟨hB.there 128 (by omega) (k * 128) (by omega), ⟨h.hd, ?_, ?_, ?_⟩, ?_⟩
  · have := h.blk.grown hO (fun e => by cases e; exact h.blk.ne_ hB (by decide) rfl)
    simpa using this
  · have hlen := rows_len secCells (D.sure.set k s) (size := 128) (fun y hy => by
      rcases List.mem_or_eq_of_mem_set hy with h2 | rfl
      · exact hl y h2
      · rw [secCells_len]; exact hs)
    simp only [List.length_set] at hlen ⊢
    exact ⟨hlen, .inr ⟨S, _, _, rfl, hbS, hB2, Nat.le_refl _, h4, by rw [spl_size]; exact h5, rows_set secCells (by omega) D.sure hl rfl h6 k hk s (by rw [secCells_len]; exact hs)⟩⟩
  · refine h.loose.kept hO (.inr fun e => ?_)
    obtain ⟨_, _, _, _, hB3, _⟩ := owns_blk h.loose e
    exact hB.ne_ hB3 (by decide) rfl
  · refine ⟨hO.os, hO.tape, hO.output, hO.size, fun g hg hc => hO.block g hg ?_⟩
    intro e
    cases e
    rcases hc with hc | hc
    · omega
    · have := hc _ _ _ hB
      cases this
/-- the load of loose sector number j -/
theorem DiskAt.load {w : World} {base d S : Nat} {lv : Value} {D : Pm.Dk} (h : DiskAt w base d S lv D) (hat : ∀ x ∈ D.loose, x.2.length = 128) (j : Nat) (hj : j < D.loose.length) :
    ∃ g cap, lv = .slice (some ⟨g, 0, none⟩) D.loose.length cap ∧ w.rangeAt g (j * 129) (wrCells (D.loose[j]'hj)) := by
  have hl := h.loose
  obtain ⟨n, hn⟩ : ∃ n, D.loose.length = n + 1 := ⟨D.loose.length - 1, by omega⟩
  rw [hn] at hl
  obtain ⟨g, cap, rfl⟩ := owns_succ hl
  obtain ⟨cap', cur, e, hb, hB, h3, h4, h5, h6⟩ := owns_blk hl (g := g) rfl
  refine ⟨g, cap, by rw [hn], ?_⟩
  exact rows_range wrCells (size := 129) (n := n + 1) (by omega) D.loose (fun x hx => wrCells_len (hat x hx)) hB hn h6 j hj
theorem zero93 : Try.zeroCells93.size = 129 := by kernel_rfl
/-- a loose sector in a box of its own -/
theorem boxed93 (w : World) (x : Nat × List UInt8) (hx : x.2.length = 128) :
    (w.alloc (.cells Try.zeroCells93 93)).there w.heap.size 0 (wrCells x).toArray.size ∧ Blk ((w.alloc (.cells Try.zeroCells93 93)).setCells w.heap.size 0 (wrCells x)) w.heap.size 93 (wrCells x).toArray ∧ Below w.heap.size w ((w.alloc (.cells Try.zeroCells93 93)).setCells w.heap.size 0 (wrCells x)) :=
  ⟨(Blk.new w 93 Try.zeroCells93).there _ (by rw [zero93]; simp [wrCells_len hx]) 0 (by rw [zero93]; simp [wrCells_len hx]), (Blk.new w 93 Try.zeroCells93).fill _ (by rw [zero93, wrCells_len hx]), bsc (Nat.le_refl _) _ _ _ (ba (Below.refl _ _) _)⟩
end Go.Proofs.Ytkbjmgenceghlaa
