/- A list of calls, done one by one up to the first that fails: what 'steps' and 'marks' answer. -/
import Derived.Test.YtkbjmgenceghlaaT3
namespace Go.Proofs.Ytkbjmgenceghlaa
open Go.RowKit
namespace Pm
def part (l : List UInt8) (k : Nat) : List UInt8 := (l.drop (k * 128)).take 128
/-- what is answered: done, or the disk is down -/
def code (b : Bool) : Int := if b then 0 else 40
/-- calls, up to the first that finds the disk down -/
def Dk.run (D : Dk) : List Cl → Dk × Bool
  | [] => (D, true)
  | c :: cs => if D.fuse = 0 then (D, false) else (D.does c).run cs
end Pm
/-- what leaves all blocks that are no disk's -/
def Holds (w w' : World) : Prop := ∀ g t cs, Blk w g t cs → diskType t = false → Blk w' g t cs
theorem Kept.holds {base : Nat} {w w' : World} (h : Kept base w w') : Holds w w' := fun _ _ _ hB ht => h.blk hB ht
/-- a function value that does a call -/
def IsCall (w : World) (d : Nat) (v : Value) (c : Pm.Cl) : Prop :=
  (∃ (b1 b2 b3 b4 at_ k pg : Nat) (l : List UInt8), v = .func (.func 49) #[] #[.pointer (some ⟨b1, 0, none⟩), .pointer (some ⟨b2, 0, none⟩), .pointer (some ⟨b3, 0, none⟩), .pointer (some ⟨b4, 0, none⟩)] ∧ Blk w b1 24 #[.pointer (some ⟨d, 0, none⟩)] ∧ Blk w b2 3 #[.int .i64 at_] ∧ Blk w b3 47 #[.int .u32 pg, .string ⟨l.toArray⟩] ∧ Blk w b4 3 #[.int .i64 k] ∧ l.length = 512 ∧ k < 4 ∧ c = .wr at_ (Pm.part l k)) ∨
  (∃ (b1 b2 b3 k : Nat) (s : List UInt8), v = .func (.func 52) #[] #[.pointer (some ⟨b1, 0, none⟩), .pointer (some ⟨b2, 0, none⟩), .pointer (some ⟨b3, 0, none⟩)] ∧ Blk w b1 24 #[.pointer (some ⟨d, 0, none⟩)] ∧ Blk w b2 3 #[.int .i64 k] ∧ Blk w b3 9 #[.string ⟨s.toArray⟩] ∧ s.length = 128 ∧ c = .wr k s) ∨
  (v = .func (.func 51) #[.pointer (some ⟨d, 0, none⟩)] #[] ∧ c = .sync)
theorem IsCall.holds {w w' : World} {d : Nat} {v : Value} {c : Pm.Cl} (h : IsCall w d v c) (hh : ∀ g t cs, Blk w g t cs → diskType t = false → t ≠ 108 → Blk w' g t cs) : IsCall w' d v c := by
  rcases h with ⟨b1, b2, b3, b4, at_, k, pg, l, e, h1, h2, h3, h4, h5⟩ | ⟨b1, b2, b3, k, s, e, h1, h2, h3, h5⟩ | h
  · exact .inl ⟨b1, b2, b3, b4, at_, k, pg, l, e, hh _ _ _ h1 rfl (by decide), hh _ _ _ h2 rfl (by decide), hh _ _ _ h3 rfl (by decide), hh _ _ _ h4 rfl (by decide), h5⟩
  · exact .inr (.inl ⟨b1, b2, b3, k, s, e, hh _ _ _ h1 rfl (by decide), hh _ _ _ h2 rfl (by decide), hh _ _ _ h3 rfl (by decide), h5⟩)
  · exact .inr (.inr h)
theorem IsCall.one {w : World} {d : Nat} {v : Value} {c : Pm.Cl} (h : IsCall w d v c) : v.oneCell' = true := by
  rcases h with ⟨b1, b2, b3, b4, at_, k, pg, l, rfl, _⟩ | ⟨b1, b2, b3, k, s, rfl, _⟩ | ⟨rfl, _⟩ <;> rfl
/-- calls in a slice -/
inductive Alike (w : World) (d : Nat) : List Value → List Pm.Cl → Prop where
  | nil : Alike w d [] []
  | cons {v : Value} {c : Pm.Cl} {vs : List Value} {cs : List Pm.Cl} (h : IsCall w d v c) (t : Alike w d vs cs) : Alike w d (v :: vs) (c :: cs)
theorem Alike.length {w : World} {d : Nat} {vs : List Value} {cs : List Pm.Cl} (h : Alike w d vs cs) : vs.length = cs.length := by
  induction h with
  | nil => rfl
  | cons _ _ ih => simp [ih]
theorem Alike.holds {w w' : World} {d : Nat} {vs : List Value} {cs : List Pm.Cl} (h : Alike w d vs cs) (hh : ∀ g t cs, Blk w g t cs → diskType t = false → t ≠ 108 → Blk w' g t cs) : Alike w' d vs cs := by
  induction h with
  | nil => exact .nil
  | cons h _ ih => exact .cons (h.holds hh) ih
theorem Alike.app {w : World} {d : Nat} {vs us : List Value} {cs ds : List Pm.Cl} (h : Alike w d vs cs) (k : Alike w d us ds) : Alike w d (vs ++ us) (cs ++ ds) := by
  induction h with
  | nil => exact k
  | cons h _ ih => exact .cons h ih
theorem Alike.get {w : World} {d : Nat} {vs : List Value} {cs : List Pm.Cl} (h : Alike w d vs cs) : ∀ (j : Nat) (hj : j < vs.length) (hk : j < cs.length), IsCall w d (vs[j]'hj) (cs[j]'hk) := by
  induction h with
  | nil => intro j hj; cases hj
  | cons h _ ih =>
    intro j hj hk
    cases j with
    | zero => exact h
    | succ j => exact ih j (by simpa using hj) (by simpa using hk)
def CallsAt (base : Nat) (w : World) (d : Nat) (v : Value) (cs : List Pm.Cl) : Prop := ∃ vs, w.ownsRow base 108 1 v vs.length vs ∧ Alike w d vs cs
theorem CallsAt.below {base : Nat} {w w' : World} {d : Nat} {v : Value} {cs : List Pm.Cl} (h : CallsAt base w d v cs) (hb : Below w.heap.size w w') : CallsAt base w' d v cs := by
  obtain ⟨vs, h1, h2⟩ := h
  exact ⟨vs, h1.kept (row := none) ⟨hb.os, hb.tape, hb.output, hb.size, fun k hk _ => hb.block k hk⟩ (by cases v.ownBlock <;> simp), h2.holds (fun _ _ _ hB _ _ => hB.after hb)⟩
theorem owns_holds {w w' : World} {base : Nat} {e : TypeId} {size : Nat} {v : Value} {n : Nat} {xs : List Value} (h : w.ownsRow base e size v n xs) (hh : Holds w w') (he : diskType e = false) : w'.ownsRow base e size v n xs := by
  refine ⟨h.1, ?_⟩
  rcases h.2 with hn | ⟨g, cap, cur, rfl, hb, hgg, rest⟩
  · exact .inl hn
  · exact .inr ⟨g, cap, cur, rfl, hb, hh g e cur hgg he, rest⟩
theorem owns_get {w : World} {base : Nat} {e : TypeId} {v : Value} {n : Nat} {xs : List Value} (h : w.ownsRow base e 1 v n xs) (j : Nat) (hj : j < xs.length) : ∃ g c, v = .slice (some ⟨g, 0, none⟩) n c ∧ w.cell? ⟨g, j, none⟩ = some (xs[j]'hj) := by
  have hn : xs.length = n := by have := h.1; omega
  obtain ⟨m, hm⟩ : ∃ m, n = m + 1 := ⟨n - 1, by omega⟩
  rw [hm] at h ⊢
  obtain ⟨g, cap, rfl⟩ := owns_succ h
  refine ⟨g, cap, rfl, ?_⟩
  have := h.cells (g := g) rfl j _ (List.getElem?_eq_getElem hj)
  rwa [Addr.add_mid, Nat.zero_add] at this
theorem Alike.kept {base : Nat} {w w' : World} {d : Nat} {vs : List Value} {cs : List Pm.Cl} (h : Alike w d vs cs) (k : Kept base w w') : Alike w' d vs cs := h.holds (fun _ _ _ hB ht _ => k.blk hB ht)
namespace Pm
theorem Dk.does_stop {D : Dk} (h : D.fuse = 0) (c : Cl) : D.does c = D := by
  cases c
  · exact wr_stop h _ _
  · exact sync_stop h
theorem Dk.run_cons {D : Dk} {c : Cl} {cs : List Cl} (h : D.fuse ≠ 0) : D.run (c :: cs) = (D.does c).run cs := by
  rw [Dk.run, if_neg h]
theorem Dk.run_down {D : Dk} {c : Cl} {cs : List Cl} (h : D.fuse = 0) : D.run (c :: cs) = (D, false) := by
  rw [Dk.run, if_pos h]
end Pm
set_option maxRecDepth 100000 in
set_option maxHeartbeats 1000000 in
theorem isCall_does (v : Value) (c : Pm.Cl) (w : World) (base d : Nat) (D : Pm.Dk) (h : IsDisk w base d D) (hc : IsCall w d v c) (hok : c.ok D.sure.length) (hfew : D.loose.length < 1000000) :
    ∃ (g : Nat) (first cap : Array Value), v = .func (.func g) first cap ∧ (g = 49 ∨ g = 51 ∨ g = 52) ∧ Calls Try.prog g (first ++ cap) w fun e w' => e = .returned (.int .i64 (if D.fuse = 0 then 40 else 0)) ∧ IsDisk w' base d (D.does c) ∧ Kept base w w' := by
  rcases hc with ⟨b1, b2, b3, b4, at_, k, pg, l, rfl, h1, h2, h3, h4, h5, h6, rfl⟩ | ⟨b1, b2, b3, k, s, rfl, h1, h2, h3, h5, rfl⟩ | ⟨rfl, rfl⟩
  · exact ⟨49, _, _, rfl, .inl rfl, closure49 b1 b2 b3 b4 at_ k pg l w base d D h h1 h2 h3 h4 hok.1 h5 h6 hfew⟩
  · exact ⟨52, _, _, rfl, .inr (.inr rfl), closure52 b1 b2 b3 k s w base d D h h1 h2 h3 hok.1 h5 hfew⟩
  · exact ⟨51, _, _, rfl, .inr (.inl rfl), sync_any w base d D h⟩
set_option maxRecDepth 100000 in
set_option maxHeartbeats 2000000 in
theorem steps_any (cs : List Pm.Cl) (v : Value) (b0 : Nat) (w : World) (base d : Nat) (D : Pm.Dk) (h : IsDisk w base d D) (hc : CallsAt b0 w d v cs) (hok : ∀ c ∈ cs, c.ok D.sure.length) (hfew : D.loose.length + cs.length < 1000000) :
    Calls Try.prog 35 #[v] w fun e w' => e = .returned (.int .i64 (Pm.code (D.run cs).2)) ∧ IsDisk w' base d (D.run cs).1 ∧ Kept base w w' := by
  obtain ⟨vs, hown, hal⟩ := hc
  have hlen := hal.length
  obtain ⟨n, hn⟩ : ∃ n, n = vs.length := ⟨_, rfl⟩
  obtain ⟨p, c, rfl⟩ : ∃ p c, v = .slice p n c := by
    rcases hown.2 with ⟨h1, h2⟩ | ⟨g, cap, cur, h1, _⟩
    · rw [hn, h2]; exact ⟨_, _, h1⟩
    · rw [hn]; exact ⟨_, _, h1⟩
  have hn2 : n < 1000000 := by omega
  have HN := Lib.hid hn
  clear hn
  go_enter Try.func35, Try.ntmps35
  go_wp2_with fail
  go_loopw [8] (fun i wr => ∃ (j : Nat) (E : Pm.Dk), j ≤ n ∧ i = .int .i64 j ∧ IsDisk wr base d E ∧ Kept base w wr ∧ Hid (E.run (cs.drop j) = D.run cs ∧ E.loose.length ≤ D.loose.length + j ∧ E.sure.length = D.sure.length)) (fun i _ => n - (intOf i).toNat)
  case atStart => exact ⟨0, D, by omega, rfl, h, Kept.refl _ _, Lib.hid ⟨rfl, by omega, rfl⟩⟩
  case round =>
    obtain ⟨j, E, hj, rfl, hI, hK, HE⟩ := hrel
    by_cases hlt : j < n
    · have hjv : j < vs.length := by have := HN.out; omega
      have hjc : j < cs.length := by omega
      obtain ⟨g, c', e, hcell⟩ := owns_get (owns_holds hown hK.holds rfl) j hjv
      rw [← HN.out] at e
      injection e with e1 e2 e3
      subst e1 e3
      clear e2
      have hic := (hal.kept hK).get j hjv hjc
      obtain ⟨y, hy⟩ : ∃ y, y = cs[j]'hjc := ⟨_, rfl⟩
      have hdr : cs.drop j = y :: cs.drop (j + 1) := by rw [hy]; exact List.drop_eq_getElem_cons hjc
      have hyok : y.ok E.sure.length := by rw [HE.out.2.2, hy]; exact hok _ (List.getElem_mem hjc)
      rw [← hy] at hic
      clear hy
      obtain ⟨u, hu⟩ : ∃ u, u = vs[j]'hjv := ⟨_, rfl⟩
      rw [← hu] at hic hcell
      clear hu
      obtain ⟨q, first, capt, rfl, hq, HC⟩ := isCall_does u y wr base d E hI hic hyok (by have := HE.out.2.1; omega)
      replace HC := Lib.hid HC
      have HY := Lib.hid hdr
      clear hdr hyok hic hI
      by_cases h0 : E.fuse = 0
      · rw [if_pos h0, Pm.Dk.does_stop h0] at HC
        have HR := HE.out.1
        rw [HY.out, Pm.Dk.run_down h0] at HR
        have hr1 : D.run cs = (E, false) := HR.symm
        have HR1 := Lib.hid hr1
        clear HE HR hr1
        rcases hq with rfl | rfl | rfl
        all_goals
          go_wp2_with fail
          refine (HC.out).mono ?_
          rintro e w2 ⟨rfl, hI2, hK2⟩
          go_wp2_with fail
          go_ret
          rw [HR1.out]
          exact ⟨rfl, hI2, hK.trans hK2⟩
      · rw [if_neg h0] at HC
        have HR := HE.out.1
        rw [HY.out, Pm.Dk.run_cons h0] at HR
        have HR1 := Lib.hid HR
        have hl1 := Pm.Dk.does_loose E y
        have hl2 := Pm.Dk.does_length E y
        have HE2 : Hid ((E.does y).run (cs.drop (j + 1)) = D.run cs ∧ (E.does y).loose.length ≤ D.loose.length + (j + 1) ∧ (E.does y).sure.length = D.sure.length) := Lib.hid ⟨HR, by have := HE.out.2.1; omega, by rw [hl2]; exact HE.out.2.2⟩
        clear HE HR HR1 hl1 hl2
        rcases hq with rfl | rfl | rfl
        all_goals
          go_wp2_with fail
          refine (HC.out).mono ?_
          rintro e w2 ⟨rfl, hI2, hK2⟩
          go_wp2_with fail
          go_roundw
          case rel => exact ⟨j + 1, E.does y, by omega, by go_num, hI2, hK.trans hK2, HE2⟩
          case measure => simp [intOf]; omega
    · have hd : cs.drop j = [] := List.drop_of_length_le (by have := HN.out; omega)
      have HR := HE.out.1
      rw [hd] at HR
      have hr1 : D.run cs = (E, true) := HR.symm
      have HR1 := Lib.hid hr1
      clear HE HR hr1 hd
      go_wp2
      go_ret
      rw [HR1.out]
      exact ⟨rfl, hI, hK⟩
end Go.Proofs.Ytkbjmgenceghlaa
