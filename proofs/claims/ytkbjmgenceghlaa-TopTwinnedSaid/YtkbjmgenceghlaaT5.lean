/- The calls by which a mark is written: what 'marks' answers; those by which pages are written home: 'homes'. -/
import Derived.Test.YtkbjmgenceghlaaT4
namespace Go.Proofs.Ytkbjmgenceghlaa
open Go.RowKit
theorem info108 : ∃ i z, Try.prog.info? 108 = some i ∧ i.zero = some z ∧ i.size = 1 ∧ i.bytes = 8 ∧ z.cells.size = 1 := info_size (by kernel_rfl)
/-- a new block is a row of one's own -/
theorem owns_new {w : World} {base g : Nat} {e : TypeId} (xs : List Value) (hg : w.heap.size = g) (hb : base ≤ g) (hx : xs.length ≤ 1000000) : (w.alloc (.cells xs.toArray e)).ownsRow base e 1 (.slice (some ⟨g, 0, none⟩) xs.length xs.length) xs.length xs := by
  subst hg
  exact ⟨by simp, .inr ⟨w.heap.size, xs.length, xs.toArray, rfl, hb, Blk.new w e xs.toArray, Nat.le_refl _, by unfold maxLen; omega, by simp, by simp⟩⟩
theorem Blk.newAt (w : World) (t : TypeId) (cs : Array Value) {g : Nat} (hg : w.heap.size = g) : Blk (w.alloc (.cells cs t)) g t cs := by
  subst hg
  exact Blk.new w t cs
set_option maxRecDepth 100000 in
set_option maxHeartbeats 1000000 in
theorem marks_any (at_ d : Nat) (s : List UInt8) (w : World) (hs : s.length = 128) (b0 : Nat) (hb : b0 ≤ w.heap.size) :
    Calls Try.prog 33 #[.pointer (some ⟨d, 0, none⟩), .int .i64 at_, .string ⟨s.toArray⟩] w fun e w' => ∃ v, e = .returned v ∧ CallsAt b0 w' d v [.wr at_ s, .sync] ∧ Below w.heap.size w w' := by
  go_enter Try.func33, Try.ntmps33
  go_wp2
  go_ret
  refine ⟨_, rfl, ⟨[_, _], owns_new [_, _] (by simp) (by omega) (by simp), ?_⟩, ba (ba (ba (ba (Below.refl _ _) _) _) _) _⟩
  refine .cons (.inr (.inl ⟨_, _, _, at_, s, rfl, ?_, ?_, ?_, hs, rfl⟩)) (.cons (.inr (.inr ⟨rfl, rfl⟩)) .nil)
  · exact (((Blk.new _ _ _).alloc _).alloc _).alloc _
  · exact ((Blk.newAt _ _ _ (by simp)).alloc _).alloc _
  · exact (Blk.newAt _ _ _ (by simp)).alloc _
namespace Pm
/-- the writes of pages, home -/
def pageW (bs : Nat) (x : Nat × List UInt8) (q : Nat) : List Cl := (List.range q).map fun r => .wr (bs + x.1 * 4 + r) (part x.2 r)
def homeW (bs : Nat) (l : List (Nat × List UInt8)) : List Cl := l.flatMap fun x => pageW bs x 4
theorem pageW_succ (bs : Nat) (x : Nat × List UInt8) (q : Nat) : pageW bs x (q + 1) = pageW bs x q ++ [.wr (bs + x.1 * 4 + q) (part x.2 q)] := by
  unfold pageW
  rw [List.range_succ, List.map_append]
  rfl
theorem homeW_snoc (bs : Nat) (l : List (Nat × List UInt8)) (k : Nat) (hk : k < l.length) : homeW bs (l.take (k + 1)) = homeW bs (l.take k) ++ pageW bs (l[k]'hk) 4 := by
  unfold homeW
  rw [List.take_succ_eq_append_getElem hk, List.flatMap_append]
  simp
theorem homeW_len (bs : Nat) (l : List (Nat × List UInt8)) : (homeW bs l).length = l.length * 4 := by
  unfold homeW
  induction l with
  | nil => rfl
  | cons x l ih => rw [List.flatMap_cons, List.length_append, ih, List.length_cons]; simp [pageW]; omega
end Pm
theorem one_new {w : World} {t : TypeId} {g : Nat} (f : Value) (hg : w.heap.size = g) : ∀ (j : Nat) (u : Value), [f][j]? = some u → (w.alloc (.cells #[f] t)).cell? ((⟨g, 0, none⟩ : Addr).add j) = some u := fun j u hu => by
  rw [Addr.add_mid, Nat.zero_add, (Blk.newAt w t #[f] hg).cell]
  cases j with
  | zero => simpa using hu
  | succ j => simp at hu
theorem owns_ne_ty {w : World} {base g : Nat} {e t : TypeId} {size : Nat} {v : Value} {n : Nat} {xs : List Value} {cs : Array Value} (h : w.ownsRow base e size v n xs) (hB : Blk w g t cs) (hne : t ≠ e) : some g ≠ v.ownBlock := fun he => by
  obtain ⟨_, _, _, _, hB', _⟩ := owns_blk h he.symm
  exact hB.ne_ hB' hne rfl
set_option maxRecDepth 100000 in
set_option maxHeartbeats 2000000 in
theorem homes_any (bs d : Nat) (l : List (Nat × List UInt8)) (hv : Value) (w : World) (hb0 : Nat) (hl : HomesAt hb0 w hv l) (hbs : bs ≤ 20000) (hn8 : l.length ≤ 1000) (hbytes : ∀ x ∈ l, x.2.length = 512) (hpg : ∀ x ∈ l, x.1 ≤ 20000) :
    Calls Try.prog 32 #[.pointer (some ⟨d, 0, none⟩), .int .i64 bs, hv] w fun e w' => ∃ v, e = .returned v ∧ CallsAt w.heap.size w' d v (Pm.homeW bs l ++ [.sync]) ∧ Below w.heap.size w w' := by
  obtain ⟨i0, z, hi, hz, hz0, hz1, hz2⟩ := info108
  obtain ⟨p, c, rfl⟩ := hl.shape
  obtain ⟨n, hn⟩ : ∃ n, n = l.length := ⟨_, rfl⟩
  have HN := Lib.hid hn
  rw [← hn] at hn8 ⊢
  clear hn
  go_enter Try.func32, Try.ntmps32
  go_wp2_with fail
  have hD0 := Blk.new w 24 #[.pointer (some ⟨d, 0, none⟩)]
  have hB0 := ba (Below.refl w.heap.size w) (.cells #[.pointer (some ⟨d, 0, none⟩)] 24)
  go_loopw [6, 13] (fun v i wr => ∃ (k : Nat) (vs : List Value), k ≤ n ∧ i = .int .i64 k ∧ wr.ownsRow w.heap.size 108 1 v vs.length vs ∧ Alike wr d vs (Pm.homeW bs (l.take k)) ∧ Blk wr w.heap.size 24 #[.pointer (some ⟨d, 0, none⟩)] ∧ Below w.heap.size w wr) (fun _ i _ => n - (intOf i).toNat)
  case atStart => exact ⟨0, [], by omega, rfl, World.ownsRow_nil _ _ _ _, by simpa [Pm.homeW] using Alike.nil, hD0, hB0⟩
  case round =>
    clear hD0 hB0
    obtain ⟨wo, rfl⟩ : ∃ wo : World, wo = wr := ⟨_, rfl⟩
    obtain ⟨k, vs, hk, rfl, hown, hal, hD, hb⟩ := hrel
    by_cases hlt : k < n
    · have hkl : k < l.length := by have := HN.out; omega
      obtain ⟨g, c', e, hgl, hc0, hc1⟩ := (hl.below hb).get k hkl
      injection e with e1 e2 e3
      subst e1 e3
      clear e2
      have hx1 := hbytes _ (List.getElem_mem hkl)
      have hx2 := hpg _ (List.getElem_mem hkl)
      obtain ⟨x, hx⟩ : ∃ x, x = l[k]'hkl := ⟨_, rfl⟩
      have HS := Pm.homeW_snoc bs l k hkl
      rw [← hx] at hc0 hc1 hx1 hx2 HS
      replace HS := Lib.hid HS
      replace hx1 := Lib.hid hx1
      clear hx
      have hH0 := Blk.new wo 47 #[.int .u32 x.1, .string ⟨x.2.toArray⟩]
      have hb1 := ba hb (.cells #[.int .u32 x.1, .string ⟨x.2.toArray⟩] 47)
      have hown1 := hown.alloc (.cells #[.int .u32 x.1, .string ⟨x.2.toArray⟩] 47)
      have hal1 := hal.holds (w' := wo.alloc (.cells #[.int .u32 x.1, .string ⟨x.2.toArray⟩] 47)) (fun _ _ _ hB _ _ => hB.alloc _)
      have hD1 := hD.alloc (.cells #[.int .u32 x.1, .string ⟨x.2.toArray⟩] 47)
      obtain ⟨b8, hb8⟩ : ∃ b, b = wo.heap.size := ⟨_, rfl⟩
      rw [← hb8] at hH0
      go_wp2_with fail
      rw [← hb8]
      clear hb8 hc0 hc1 hown hal hD hgl
      go_loopw [6, 17] (fun v i wr => ∃ (q : Nat) (us : List Value), q ≤ 4 ∧ i = .int .i64 q ∧ wr.ownsRow w.heap.size 108 1 v us.length us ∧ Alike wr d us (Pm.homeW bs (l.take k) ++ Pm.pageW bs x q) ∧ Blk wr w.heap.size 24 #[.pointer (some ⟨d, 0, none⟩)] ∧ Blk wr b8 47 #[.int .u32 x.1, .string ⟨x.2.toArray⟩] ∧ Below w.heap.size w wr) (fun _ i _ => 4 - (intOf i).toNat)
      case atStart => exact ⟨0, vs, by omega, rfl, hown1, by simpa [Pm.pageW] using hal1, hD1, hH0, hb1⟩
      case round =>
        clear hown1 hal1 hD1 hH0 hb1
        obtain ⟨q, us, hq, rfl, hown, hal, hD, hH, hbz⟩ := hrel
        by_cases hq4 : q < 4
        · have cH := hH.cell
          have lH := hH.lt
          have nH := Nat.ne_of_lt lH
          have cD := hD.cell
          have lD := hD.lt
          have dq : decide ((q : Int) < 4) = true := by simp; omega
          have hb3 : Below wr.heap.size wr (((wr.alloc (.cells #[.int .i64 q] 3)).alloc (.cells #[.int .i64 ((bs : Int) + (x.1 : Int) * 4 + q)] 3)).alloc (.cells #[(Value.func (.func 49) #[] #[.pointer (some ⟨w.heap.size, 0, none⟩), .pointer (some ⟨wr.heap.size + 1, 0, none⟩), .pointer (some ⟨b8, 0, none⟩), .pointer (some ⟨wr.heap.size, 0, none⟩)])] 108)) := ba (ba (ba (Below.refl _ _) _) _) _
          have hown3 := ((hown.alloc (.cells #[.int .i64 q] 3)).alloc (.cells #[.int .i64 ((bs : Int) + (x.1 : Int) * 4 + q)] 3)).alloc (.cells #[(Value.func (.func 49) #[] #[.pointer (some ⟨w.heap.size, 0, none⟩), .pointer (some ⟨wr.heap.size + 1, 0, none⟩), .pointer (some ⟨b8, 0, none⟩), .pointer (some ⟨wr.heap.size, 0, none⟩)])] 108)
          have hAt := ((Blk.newAt (wr.alloc (.cells #[.int .i64 q] 3)) 3 #[.int .i64 ((bs : Int) + (x.1 : Int) * 4 + q)] (g := wr.heap.size + 1) (by simp)).alloc (.cells #[(Value.func (.func 49) #[] #[.pointer (some ⟨w.heap.size, 0, none⟩), .pointer (some ⟨wr.heap.size + 1, 0, none⟩), .pointer (some ⟨b8, 0, none⟩), .pointer (some ⟨wr.heap.size, 0, none⟩)])] 108))
          have hQ := (((Blk.new wr 3 #[.int .i64 q]).alloc (.cells #[.int .i64 ((bs : Int) + (x.1 : Int) * 4 + q)] 3)).alloc (.cells #[(Value.func (.func 49) #[] #[.pointer (some ⟨w.heap.size, 0, none⟩), .pointer (some ⟨wr.heap.size + 1, 0, none⟩), .pointer (some ⟨b8, 0, none⟩), .pointer (some ⟨wr.heap.size, 0, none⟩)])] 108))
          have hul : us.length ≤ 10000 := by
            rw [hal.length, List.length_append, Pm.homeW_len]
            simp [Pm.pageW]
            omega
          have hbs3 := hb3.size
          have hbzs := hbz.size
          go_wp2_with (at_builtin; refine wpList_append_own _ rfl _ _ 85 rfl w.heap.size 108 i0 z 1 8 Try.underlying85 hi hz hz0 hz1 hz2 (by decide) _ us.length us rfl hown3 ⟨wr.heap.size + 1 + 1, 0, none⟩ 1 1 [(Value.func (.func 49) #[] #[.pointer (some ⟨w.heap.size, 0, none⟩), .pointer (some ⟨wr.heap.size + 1, 0, none⟩), .pointer (some ⟨b8, 0, none⟩), .pointer (some ⟨wr.heap.size, 0, none⟩)])] rfl rfl ?c1 ?c2 ?c3 ?c4 ?c5 ?_)
          case c1 => exact one_new _ (by simp)
          case c2 => exact fun u hu => by simp at hu; subst hu; rfl
          case c3 => unfold maxLen; omega
          case c4 => omega
          case c5 => omega
          intro v' w1 hown' hgrow _
          have hfin : Alike w1 d (us ++ [(Value.func (.func 49) #[] #[.pointer (some ⟨w.heap.size, 0, none⟩), .pointer (some ⟨wr.heap.size + 1, 0, none⟩), .pointer (some ⟨b8, 0, none⟩), .pointer (some ⟨wr.heap.size, 0, none⟩)])]) (Pm.homeW bs (l.take k) ++ Pm.pageW bs x (q + 1)) := by
            rw [Pm.pageW_succ, ← List.append_assoc]
            refine (hal.holds fun g t cs hB _ ht => (hB.after hb3).grown hgrow (owns_ne_ty hown3 (hB.after hb3) ht)).app (.cons (.inl ⟨_, _, _, _, bs + x.1 * 4 + q, q, x.1, x.2, rfl, ?_, ?_, ?_, ?_, hx1.out, hq4, rfl⟩) .nil)
            · exact (hD.after hb3).grown hgrow (owns_ne_ty hown3 (hD.after hb3) (by decide))
            · have := hAt.grown hgrow (owns_ne_ty hown3 hAt (by decide))
              simpa using this
            · exact (hH.after hb3).grown hgrow (owns_ne_ty hown3 (hH.after hb3) (by decide))
            · exact hQ.grown hgrow (owns_ne_ty hown3 hQ (by decide))
          have hD' := (hD.after hb3).grown hgrow (owns_ne_ty hown3 (hD.after hb3) (by decide))
          have hH' := (hH.after hb3).grown hgrow (owns_ne_ty hown3 (hH.after hb3) (by decide))
          have hb' : Below w.heap.size w w1 := (bt hbz hb3).grown hgrow (by omega) (fun k hk => (hown.lt k hk).1)
          clear hAt hQ hown3 hgrow hb3 cH lH nH cD lD hal hD hH hbz hown
          go_wp2
          go_roundw
          case rel => exact ⟨q + 1, us ++ [(Value.func (.func 49) #[] #[.pointer (some ⟨w.heap.size, 0, none⟩), .pointer (some ⟨wr.heap.size + 1, 0, none⟩), .pointer (some ⟨b8, 0, none⟩), .pointer (some ⟨wr.heap.size, 0, none⟩)])], by omega, by go_num, by simpa using hown', hfin, hD', hH', hb'⟩
          case measure => simp [intOf]; omega
        · obtain rfl : q = 4 := by omega
          go_wp2
          go_roundw
          case rel => exact ⟨k + 1, us, by omega, by go_num, hown, by rw [HS.out]; exact hal, hD, hbz⟩
          case measure => simp [intOf]; omega
    · obtain rfl : k = n := by omega
      have hall : l.take k = l := List.take_of_length_le (by have := HN.out; omega)
      rw [hall] at hal
      clear hall
      have cD := hD.cell
      have hb3 := ba (Below.refl wo.heap.size wo) (.cells #[(Value.func (.func 51) #[.pointer (some ⟨d, 0, none⟩)] #[])] 108)
      have hown3 := hown.alloc (.cells #[(Value.func (.func 51) #[.pointer (some ⟨d, 0, none⟩)] #[])] 108)
      have hul : vs.length ≤ 10000 := by
        rw [hal.length, Pm.homeW_len]
        have := HN.out
        omega
      have hbzs := hb.size
      have hbs3 := hb3.size
      go_wp2_with (at_builtin; refine wpList_append_own _ rfl _ _ 85 rfl w.heap.size 108 i0 z 1 8 Try.underlying85 hi hz hz0 hz1 hz2 (by decide) _ vs.length vs rfl hown3 ⟨wo.heap.size, 0, none⟩ 1 1 [(Value.func (.func 51) #[.pointer (some ⟨d, 0, none⟩)] #[])] rfl rfl ?c1 ?c2 ?c3 ?c4 ?c5 ?_)
      case c1 => exact one_new _ rfl
      case c2 => exact fun u hu => by simp at hu; subst hu; rfl
      case c3 => unfold maxLen; omega
      case c4 => omega
      case c5 => omega
      intro v' w1 hown' hgrow _
      have hfin : Alike w1 d (vs ++ [(Value.func (.func 51) #[.pointer (some ⟨d, 0, none⟩)] #[])]) (Pm.homeW bs l ++ [.sync]) :=
        (hal.holds fun g t cs hB _ ht => (hB.after hb3).grown hgrow (owns_ne_ty hown3 (hB.after hb3) ht)).app (.cons (.inr (.inr ⟨rfl, rfl⟩)) .nil)
      have hb' : Below w.heap.size w w1 := (bt hb hb3).grown hgrow (by omega) (fun k hk => (hown.lt k hk).1)
      clear hown3 hgrow hb3 cD hal hD hown
      go_wp2
      go_ret
      exact ⟨_, rfl, ⟨_, by simpa using hown', hfin⟩, hb'⟩
end Go.Proofs.Ytkbjmgenceghlaa
