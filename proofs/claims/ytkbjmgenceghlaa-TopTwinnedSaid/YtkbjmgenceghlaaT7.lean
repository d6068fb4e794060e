/- Pages written twice: what 'Write' answers. -/
import Derived.Test.YtkbjmgenceghlaaT6
namespace Go.Proofs.Ytkbjmgenceghlaa
open Go.RowKit
namespace Pm
/-- pages as they go into the area -/
def areaOf (l : List (Nat × List UInt8)) : List (Nat × List UInt8) := l.zipIdx.map fun x => (x.2, x.1.2)
theorem areaOf_snoc (l : List (Nat × List UInt8)) (k : Nat) (hk : k < l.length) : areaOf (l.take (k + 1)) = areaOf (l.take k) ++ [(k, (l[k]'hk).2)] := by
  unfold areaOf
  rw [List.take_succ_eq_append_getElem hk, List.zipIdx_append, List.map_append]
  simp
  omega
theorem areaOf_len (l : List (Nat × List UInt8)) : (areaOf l).length = l.length := by simp [areaOf]
theorem areaOf_mem {l : List (Nat × List UInt8)} {x : Nat × List UInt8} (h : x ∈ areaOf l) : x.1 < l.length ∧ ∃ y ∈ l, x.2 = y.2 := by
  unfold areaOf at h
  obtain ⟨y, hy, rfl⟩ := List.mem_map.1 h
  obtain ⟨_, h2, h3⟩ := List.mem_zipIdx hy
  exact ⟨by simpa using h2, y.1, by rw [h3]; exact List.getElem_mem _, rfl⟩
theorem part_len (l : List UInt8) (k : Nat) (hl : l.length = 512) (hk : k < 4) : (part l k).length = 128 := by
  unfold part
  simp [hl]
  omega
theorem homeW_ok {bs m : Nat} (l : List (Nat × List UInt8)) (h : ∀ x ∈ l, bs + x.1 * 4 + 4 ≤ m ∧ x.2.length = 512) : ∀ c ∈ homeW bs l, c.ok m := by
  intro c hc
  obtain ⟨x, hx, hc⟩ := List.mem_flatMap.1 hc
  obtain ⟨r, hr, rfl⟩ := List.mem_map.1 hc
  have := List.mem_range.1 hr
  obtain ⟨h1, h2⟩ := h x hx
  exact ⟨by omega, part_len _ _ h2 (by omega)⟩
/-- the calls of a write -/
def writeCalls (at_ bs : Nat) (l : List (Nat × List UInt8)) : List Cl :=
  ((homeW (at_ + 1) (areaOf l) ++ [.sync] ++ [.wr at_ (markOf (l.map (·.1))), .sync]) ++ (homeW bs l ++ [.sync])) ++ [.wr at_ (zeros 128), .sync]
theorem writeCalls_ok (at_ bs m : Nat) (l : List (Nat × List UInt8)) (h1 : at_ + 33 ≤ bs) (h2 : bs ≤ m) (hn : l.length ≤ 8) (hmk : (markOf (l.map (·.1))).length = 128) (hbytes : ∀ x ∈ l, x.2.length = 512) (hpg : ∀ x ∈ l, bs + x.1 * 4 + 4 ≤ m) :
    ∀ c ∈ writeCalls at_ bs l, c.ok m := by
  have ha := homeW_ok (bs := at_ + 1) (m := m) (areaOf l) (fun x hx => by
    obtain ⟨h1, y, hy, e⟩ := areaOf_mem hx
    exact ⟨by omega, by rw [e]; exact hbytes y hy⟩)
  have hb := homeW_ok (bs := bs) (m := m) l (fun x hx => ⟨hpg x hx, hbytes x hx⟩)
  have o1 : Cl.ok m (.wr at_ (markOf (l.map (·.1)))) := ⟨by omega, hmk⟩
  have o2 : Cl.ok m (.wr at_ (zeros 128)) := ⟨by omega, zeros_length _⟩
  have o3 : Cl.ok m .sync := trivial
  intro c hc
  unfold writeCalls at hc
  generalize homeW (at_ + 1) (areaOf l) = A at *
  generalize homeW bs l = B at *
  generalize Cl.wr at_ (markOf (l.map (·.1))) = X at *
  generalize Cl.wr at_ (zeros 128) = Y at *
  simp only [List.mem_append, List.mem_cons, List.not_mem_nil, or_false] at hc
  rcases hc with (((hc | rfl) | rfl | rfl) | hc | rfl) | rfl | rfl
  · exact ha c hc
  · exact o3
  · exact o1
  · exact o3
  · exact hb c hc
  · exact o3
  · exact o2
  · exact o3
end Pm
theorem owns_weaken {w : World} {base base' : Nat} {e : TypeId} {size : Nat} {v : Value} {n : Nat} {xs : List Value} (h : w.ownsRow base e size v n xs) (hb : base' ≤ base) : w.ownsRow base' e size v n xs := by
  refine ⟨h.1, ?_⟩
  rcases h.2 with hn | ⟨g, cap, cur, e, h1, rest⟩
  · exact .inl hn
  · exact .inr ⟨g, cap, cur, e, by omega, rest⟩
theorem CallsAt.weaken {base base' : Nat} {w : World} {d : Nat} {v : Value} {cs : List Pm.Cl} (h : CallsAt base w d v cs) (hb : base' ≤ base) : CallsAt base' w d v cs := by
  obtain ⟨vs, h1, h2⟩ := h
  exact ⟨vs, owns_weaken h1 hb, h2⟩
theorem Alike.one {w : World} {d : Nat} {vs : List Value} {cs : List Pm.Cl} (h : Alike w d vs cs) : ∀ v ∈ vs, v.oneCell' = true := by
  induction h with
  | nil => intro v hv; cases hv
  | cons h _ ih =>
    intro v hv
    rcases List.mem_cons.1 hv with rfl | hv
    · exact h.one
    · exact ih v hv
/-- calls put behind calls -/
theorem wpList_append_calls {ops : Array Oper} {rest : List Oper} {o : Oper} {a : Act} {Q : Exit → Act → World → Prop} (w : World) (hgd : o.guard = none) (s x : Operand) (ho : o.op = .call { callee := .builtin .append, args := #[s, x], argTypes := #[85, 85] })
    (B B2 d : Nat) (v1 v2 : Value) (cs1 cs2 : List Pm.Cl) (hs : a.eval s = v1) (hx : a.eval x = v2) (h1 : CallsAt B w d v1 cs1) (h2 : CallsAt B2 w d v2 cs2) (hne : 0 < cs2.length) (hB : B ≤ w.heap.size) (hlen : cs1.length + cs2.length ≤ 100000)
    (h : ∀ v' w', CallsAt B w' d v' (cs1 ++ cs2) → (∀ {B0 : Nat} {w0 : World}, Below B0 w0 w → B0 ≤ B → Below B0 w0 w') → wpList Try.prog ops Q rest (a.put o.dst v') w') : wpList Try.prog ops Q (o :: rest) a w := by
  obtain ⟨i0, z, hi, hz, hz0, hz1, hz2⟩ := info108
  obtain ⟨vs1, ho1, ha1⟩ := h1
  obtain ⟨vs2, ho2, ha2⟩ := h2
  have hl1 := ha1.length
  have hl2 := ha2.length
  obtain ⟨m, hm⟩ : ∃ m, vs2.length = m + 1 := ⟨vs2.length - 1, by omega⟩
  rw [hm] at ho2
  obtain ⟨g, cap, rfl⟩ := owns_succ ho2
  refine wpList_append_own w hgd s x 85 ho B 108 i0 z 1 8 Try.underlying85 hi hz hz0 hz1 hz2 (by decide) v1 vs1.length vs1 hs ho1 ⟨g, 0, none⟩ (m + 1) cap vs2 hx (by rw [hm]; omega) (fun j u hu => ho2.cells (g := g) rfl j u hu) ha2.one (by unfold maxLen; omega) (by omega) hB ?_
  intro v' w' hown' hgrow _
  have hh : ∀ g t cs, Blk w g t cs → diskType t = false → t ≠ 108 → Blk w' g t cs := fun g t cs hB _ ht => hB.grown hgrow (owns_ne_ty ho1 hB ht)
  refine h v' w' ⟨vs1 ++ vs2, ?_, (ha1.holds hh).app (ha2.holds hh)⟩ (fun {B0 w0} hb hB0 => hb.grown hgrow ?_ (fun k hk => Nat.le_trans hB0 (ho1.lt k hk).1))
  · rw [List.length_append, hm]; exact hown'
  · omega
theorem info47 : ∃ i z, Try.prog.info? 47 = some i ∧ i.zero = some z ∧ i.size = 2 ∧ i.bytes = 24 ∧ z.cells.size = 2 := info_size (by kernel_rfl)
set_option maxRecDepth 100000 in
set_option maxHeartbeats 1000000 in
theorem twinwrite_any (at_ bs : Nat) (l : List (Nat × List UInt8)) (hv : Value) (w : World) (base d : Nat) (D : Pm.Dk) (h : IsDisk w base d D) (hb0 : Nat) (hl : HomesAt hb0 w hv l)
    (h1 : at_ + 33 ≤ bs) (h2 : bs ≤ D.sure.length) (hn1 : 1 ≤ l.length) (hn8 : l.length ≤ 8) (hbytes : ∀ x ∈ l, x.2.length = 512) (hpg : ∀ x ∈ l, bs + x.1 * 4 + 4 ≤ D.sure.length) (hnd : (l.map (·.1)).Nodup) (hlo : D.loose = []) :
    Calls Try.prog 14 #[.pointer (some ⟨d, 0, none⟩), .int .i64 at_, .int .i64 bs, hv] w fun e w' => e = .returned (.int .i64 (Pm.code (D.run (Pm.writeCalls at_ bs l)).2)) ∧ IsDisk w' base d (D.run (Pm.writeCalls at_ bs l)).1 ∧ Kept base w w' := by
  have HP := Lib.hid (placed_any at_ bs w base d D h (by omega) h2)
  have HM := Lib.hid (twinmay_yes at_ bs l hv w base d D h hb0 hl h1 hn1 hn8 hbytes hpg hnd)
  have hbd := h.ok.bound
  have hbs : bs ≤ 20000 := by omega
  have hpg2 : ∀ x ∈ l, x.1 ≤ 20000 := fun x hx => by have := hpg x hx; omega
  obtain ⟨p, c, rfl⟩ := hl.shape
  obtain ⟨n, hn⟩ : ∃ n, n = l.length := ⟨_, rfl⟩
  have HN := Lib.hid hn
  rw [← hn] at hn8 hn1 HM hl ⊢
  obtain ⟨iz, z, hi, hz, hz0, hz1, hz2⟩ := info47
  have h1c := Lib.hid h1
  have hat0 : at_ + 33 ≤ bs ∧ bs ≤ D.sure.length ∧ at_ ≤ 17000 := ⟨h1, h2, by omega⟩
  have hat := Lib.hid hat0
  have hat2 : at_ ≤ 17000 := hat0.2.2
  clear hat0
  clear hn h1 h2
  go_enter Try.func14, Try.ntmps14
  go_wp2_with fail
  refine (HP.out).mono ?_
  rintro e w1 ⟨rfl, rfl⟩
  go_wp2_with fail
  refine (HM.out).mono ?_
  rintro e w1 ⟨rfl, hb1⟩
  clear HP HM
  go_wp2_with fail
  go_loopw [10, 29] (fun v i wr => ∃ k : Nat, k ≤ n ∧ i = .int .i64 k ∧ HomesAt w.heap.size wr v (Pm.areaOf (l.take k)) ∧ Below w.heap.size w wr) (fun _ i _ => n - (intOf i).toNat)
  case atStart => exact ⟨0, by omega, rfl, World.ownsRow_nil _ _ _ _, hb1⟩
  case round =>
    clear hb1
    obtain ⟨k, hk, rfl, hA, hb⟩ := hrel
    by_cases hlt : k < n
    · have hkl : k < l.length := by have := HN.out; omega
      obtain ⟨g, c', e, hgl, hc0, hc1⟩ := (hl.below hb).get k hkl
      injection e with e1 e2 e3
      subst e1 e3
      clear e2
      have HS := Pm.areaOf_snoc l k hkl
      obtain ⟨x, hx⟩ : ∃ x, x = l[k]'hkl := ⟨_, rfl⟩
      rw [← hx] at hc0 hc1 HS
      replace HS := Lib.hid HS
      clear hx
      have hal : (Pm.areaOf (l.take k)).length ≤ 100 := by rw [Pm.areaOf_len, List.length_take]; omega
      have hbs0 := hb.size
      have hwk : IntKind.u32.wrap (k : Int) = k := IntWalk.u32_in _ (by omega)
      have hb2 := ba (ba (Below.refl wr.heap.size wr) (.cells #[.int .u32 x.1, .string ⟨x.2.toArray⟩] 47)) (.cells #[.int .u32 k, .string ⟨x.2.toArray⟩] 47)
      have hA2 := hA.below hb2
      have hb2s := hb2.size
      have hNew := Blk.newAt (wr.alloc (.cells #[.int .u32 x.1, .string ⟨x.2.toArray⟩] 47)) 47 #[.int .u32 k, .string ⟨x.2.toArray⟩] (g := wr.heap.size + 1) (by simp)
      go_wp2_with (at_builtin; refine wpList_append_own _ rfl _ _ 41 rfl w.heap.size 47 iz z 2 24 Try.underlying41 hi hz hz0 hz1 hz2 (by decide) _ _ _ rfl hA2 ⟨wr.heap.size + 1, 0, none⟩ 1 1 [.int .u32 k, .string ⟨x.2.toArray⟩] rfl rfl ?c1 ?c2 ?c3 ?c4 ?c5 ?_)
      case c1 =>
        intro j u hu
        rw [Addr.add_mid, Nat.zero_add, hNew.cell, ← hu]
        simp
      case c2 =>
        intro u hu
        simp at hu
        rcases hu with rfl | rfl <;> rfl
      case c3 => unfold maxLen; omega
      case c4 => omega
      case c5 => omega
      intro v' w2 hown' hgrow _
      have hfin : HomesAt w.heap.size w2 v' (Pm.areaOf (l.take (k + 1))) := by
        rw [HS.out]
        unfold HomesAt
        rw [List.length_append, List.flatMap_append]
        exact hown'
      have hb' : Below w.heap.size w w2 := (bt hb hb2).grown hgrow (by omega) (fun r hr => (World.ownsRow.lt hA r hr).1)
      clear hown' hgrow hA2 hNew hb2
      go_wp2
      go_roundw
      case rel => exact ⟨k + 1, by omega, by go_num, hfin, hb'⟩
      case measure => simp [intOf]; omega
    · obtain rfl : k = n := by omega
      have hall : l.take k = l := List.take_of_length_le (by have := HN.out; omega)
      rw [hall] at hA
      clear hall
      have hab : ∀ x ∈ Pm.areaOf l, x.2.length = 512 := fun x hx => by
        obtain ⟨_, y, hy, e⟩ := Pm.areaOf_mem hx
        rw [e]; exact hbytes y hy
      have hap : ∀ x ∈ Pm.areaOf l, x.1 ≤ 20000 := fun x hx => by
        have := (Pm.areaOf_mem hx).1
        have := HN.out
        omega
      have hal8 : (Pm.areaOf l).length ≤ 1000 := by rw [Pm.areaOf_len]; have := HN.out; omega
      have hl8 : l.length ≤ 1000 := by have := HN.out; omega
      have hl88 : l.length ≤ 8 := by have := HN.out; omega
      have hwl1 : (Pm.homeW (at_ + 1) (Pm.areaOf l)).length ≤ 100 := by rw [Pm.homeW_len, Pm.areaOf_len]; omega
      have hwl2 : (Pm.homeW bs l).length ≤ 100 := by rw [Pm.homeW_len]; omega
      have hmk : (Pm.markOf (l.map (·.1))).length = 128 := by
        unfold Pm.markOf Pm.fill Pm.sealOf Pm.low4
        simp only [List.length_append, Pm.zeros_length, Pm.headK_len, List.length_map, List.length_cons, List.length_nil]
        omega
      have HH1 := homes_any (at_ + 1) d (Pm.areaOf l) _ wr _ hA (by have := hat.out.2.2; omega) hal8 hab hap
      rw [show ((at_ + 1 : Nat) : Int) = (at_ : Int) + 1 by omega] at HH1
      replace HH1 := Lib.hid HH1
      replace hwl1 := Lib.hid hwl1
      replace hwl2 := Lib.hid hwl2
      have hbr := hb.size
      clear hA hab hap hal8
      go_wp2_with fail
      refine (HH1.out).mono ?_
      rintro e w2 ⟨v1, rfl, hC1, hb2⟩
      clear HH1
      have hbw2 := bt hb hb2
      have HK := Lib.hid (mark_any l _ w2 hb0 (hl.below hbw2) hl88 (fun x hx => by have := hpg2 x hx; omega))
      go_wp2_with fail
      refine (HK.out).mono ?_
      rintro e w3 ⟨rfl, hb3⟩
      clear HK
      have hbw3 := bt hbw2 hb3
      have hC1 := (hC1.below hb3).weaken hbr
      have HMK := Lib.hid (marks_any at_ d (Pm.markOf (l.map (·.1))) w3 hmk 0 (Nat.zero_le _))
      go_wp2_with fail
      refine (HMK.out).mono ?_
      rintro e w4 ⟨v2, rfl, hC2, hb4⟩
      clear HMK
      have hbw4 := bt hbw3 hb4
      have hC1 := hC1.below hb4
      have hbs4 := hbw4.size
      go_wp2_with (at_builtin; refine wpList_append_calls _ rfl _ _ rfl w.heap.size 0 d v1 v2 _ _ rfl rfl hC1 hC2 (by simp) hbs4 (by have := hwl1.out; simp; omega) ?_)
      intro v3 w5 hC3 hbA
      have hbw5 := hbA hbw4 (Nat.le_refl _)
      have hbs5 := hbw5.size
      clear hC1 hC2 hbA
      have HH2 := Lib.hid (homes_any bs d l _ w5 hb0 (hl.below hbw5) hbs hl8 hbytes hpg2)
      go_wp2_with fail
      refine (HH2.out).mono ?_
      rintro e w6 ⟨v4, rfl, hC4, hb6⟩
      clear HH2
      have hbw6 := bt hbw5 hb6
      have hC3 := hC3.below hb6
      have hbs6 := hbw6.size
      go_wp2_with (at_builtin; refine wpList_append_calls _ rfl _ _ rfl w.heap.size _ d v3 v4 _ _ rfl rfl hC3 hC4 (by simp) hbs6 (by have := hwl1.out; have := hwl2.out; simp; omega) ?_)
      intro v5 w7 hC5 hbA
      have hbw7 := hbA hbw6 (Nat.le_refl _)
      clear hC3 hC4 hbA
      go_wp2_with fail
      refine (clear_any _).mono ?_
      rintro e w8 ⟨rfl, hb8⟩
      have hbw8 := bt hbw7 hb8
      have HMK := Lib.hid (marks_any at_ d (Pm.zeros 128) w8 (Pm.zeros_length _) 0 (Nat.zero_le _))
      go_wp2_with fail
      refine (HMK.out).mono ?_
      rintro e w9 ⟨v6, rfl, hC6, hb9⟩
      clear HMK
      have hbw9 := bt hbw8 hb9
      have hC5 := (hC5.below hb8).below hb9
      have hbs9 := hbw9.size
      go_wp2_with (at_builtin; refine wpList_append_calls _ rfl _ _ rfl w.heap.size 0 d v5 v6 _ _ rfl rfl hC5 hC6 (by simp) hbs9 (by have := hwl1.out; have := hwl2.out; simp; omega) ?_)
      intro v7 w10 hC7 hbA
      have hbw10 := hbA hbw9 (Nat.le_refl _)
      clear hC5 hC6 hbA
      have hok : ∀ c ∈ Pm.writeCalls at_ bs l, c.ok D.sure.length := Pm.writeCalls_ok at_ bs _ l hat.out.1 hat.out.2.1 hl88 hmk hbytes hpg
      have hlen : D.loose.length + (Pm.writeCalls at_ bs l).length < 1000000 := by
        rw [hlo]
        unfold Pm.writeCalls
        have := hwl1.out
        have := hwl2.out
        simp
        omega
      have hC7 : CallsAt w.heap.size w10 d v7 (Pm.writeCalls at_ bs l) := by simpa [Pm.writeCalls] using hC7
      have HST := Lib.hid (steps_any (Pm.writeCalls at_ bs l) v7 _ w10 base d D (h.below hbw10) hC7 hok hlen)
      clear hok hlen hC7
      trace "A"
      go_wp2_with fail
      trace "B"
      refine (HST.out).mono ?_
      rintro e w11 ⟨rfl, hI, hK⟩
      go_wp2_with fail
      go_ret
      exact ⟨rfl, hI, (Kept.below hbw10).trans hK⟩
end Go.Proofs.Ytkbjmgenceghlaa
