/- A repair behind a mark: each page is written home once more. -/
import Derived.Test.YtkbjmgenceghlaaT8
namespace Go.Proofs.Ytkbjmgenceghlaa
open Go.RowKit
namespace Pm
/-- the pages that lie in the area -/
def backOf (u : List (List UInt8)) (at_ : Nat) (ids : List Nat) : List (Nat × List UInt8) := ids.zipIdx.map fun x => (x.1, pageAt u (at_ + 1 + x.2 * 4))
theorem backOf_snoc (u : List (List UInt8)) (at_ : Nat) (ids : List Nat) (k : Nat) (hk : k < ids.length) : backOf u at_ (ids.take (k + 1)) = backOf u at_ (ids.take k) ++ [(ids[k]'hk, pageAt u (at_ + 1 + k * 4))] := by
  unfold backOf
  rw [List.take_succ_eq_append_getElem hk, List.zipIdx_append, List.map_append]
  have e : (ids.take k).length = k := by rw [List.length_take]; omega
  simp [e]
theorem backOf_len (u : List (List UInt8)) (at_ : Nat) (ids : List Nat) : (backOf u at_ ids).length = ids.length := by simp [backOf]
theorem backOf_ids (u : List (List UInt8)) (at_ : Nat) (ids : List Nat) : (backOf u at_ ids).map (·.1) = ids := by
  unfold backOf
  rw [List.map_map]
  have : ((fun x : Nat × List UInt8 => x.1) ∘ fun x : Nat × Nat => (x.1, pageAt u (at_ + 1 + x.2 * 4))) = Prod.fst := rfl
  rw [this]
  simp
theorem backOf_mem {u : List (List UInt8)} {at_ : Nat} {ids : List Nat} {x : Nat × List UInt8} (h : x ∈ backOf u at_ ids) : x.1 ∈ ids ∧ ∃ i, i < ids.length ∧ x.2 = pageAt u (at_ + 1 + i * 4) := by
  unfold backOf at h
  obtain ⟨y, hy, rfl⟩ := List.mem_map.1 h
  obtain ⟨_, h2, h3⟩ := List.mem_zipIdx hy
  refine ⟨?_, y.2, by simpa using h2, rfl⟩
  show y.1 ∈ ids
  rw [h3]; exact List.getElem_mem _
theorem pageN_whole (u : List (List UInt8)) (hu : ∀ s ∈ u, s.length = 128) (b : Nat) : ∀ q, b + q ≤ u.length → (pageN u b q).length = q * 128
  | 0, _ => by simp [pageN]
  | q + 1, h => by
    rw [pageN_succ, List.length_append, pageN_whole u hu b q (by omega)]
    unfold sec
    rw [List.getElem?_eq_getElem (show b + q < u.length by omega)]
    simp [hu _ (List.getElem_mem (show b + q < u.length by omega))]
    omega
/-- the calls of a repair -/
def backCalls (at_ bs : Nat) (L : List (Nat × List UInt8)) : List Cl := (homeW bs L ++ [.sync]) ++ [.wr at_ (zeros 128), .sync]
theorem backCalls_ok (at_ bs m : Nat) (L : List (Nat × List UInt8)) (h1 : at_ < m) (hbytes : ∀ x ∈ L, x.2.length = 512) (hpg : ∀ x ∈ L, bs + x.1 * 4 + 4 ≤ m) : ∀ c ∈ backCalls at_ bs L, c.ok m := by
  have hb := homeW_ok (bs := bs) (m := m) L (fun x hx => ⟨hpg x hx, hbytes x hx⟩)
  have o2 : Cl.ok m (.wr at_ (zeros 128)) := ⟨by omega, zeros_length _⟩
  have o3 : Cl.ok m .sync := trivial
  intro c hc
  unfold backCalls at hc
  generalize homeW bs L = B at *
  generalize Cl.wr at_ (zeros 128) = Y at *
  simp only [List.mem_append, List.mem_cons, List.not_mem_nil, or_false] at hc
  rcases hc with (hc | rfl) | rfl | rfl
  · exact hb c hc
  · exact o3
  · exact o2
  · exact o3
def cnt (b : Bool) (n : Nat) : Int := if b then n else 0
end Pm
set_option maxRecDepth 100000 in
set_option maxHeartbeats 1000000 in
theorem repair_set (at_ bs : Nat) (ids : List Nat) (w : World) (base d : Nat) (D : Pm.Dk) (h : IsDisk w base d D) (h1 : at_ + 33 ≤ bs) (h2 : bs ≤ D.sure.length) (h0 : D.fuse ≠ 0) (hlo : D.loose = []) (hat : at_ < D.sure.length) (hm : D.sure[at_]'hat = Pm.markOf ids)
    (hn1 : 1 ≤ ids.length) (hn8 : ids.length ≤ 8) (hpg : ∀ p ∈ ids, bs + p * 4 + 4 ≤ D.sure.length) (hnd : ids.Nodup) :
    Calls Try.prog 18 #[.pointer (some ⟨d, 0, none⟩), .int .i64 at_, .int .i64 bs] w fun e w' => e = .returned (.tuple #[.int .i64 (Pm.cnt (D.run (Pm.backCalls at_ bs (Pm.backOf D.sure at_ ids))).2 ids.length), .int .i64 (Pm.code (D.run (Pm.backCalls at_ bs (Pm.backOf D.sure at_ ids))).2)]) ∧
      IsDisk w' base d (D.run (Pm.backCalls at_ bs (Pm.backOf D.sure at_ ids))).1 ∧ Kept base w w' := by
  obtain ⟨⟨E, b⟩, hR⟩ : ∃ R, R = D.run (Pm.backCalls at_ bs (Pm.backOf D.sure at_ ids)) := ⟨_, rfl⟩
  rw [← hR]
  have HRR := Lib.hid hR
  clear hR
  dsimp only
  have hbd := h.ok.bound
  have hsec := h.ok.secs
  have hids : ∀ p ∈ ids, p ≤ 20000 := fun p hp => by have := hpg p hp; omega
  have HP := Lib.hid (placed_any at_ 0 w base d D h (by omega) (by omega))
  have HR := read_yes at_ w base d D h h0 hlo hat
  rw [hm] at HR
  replace HR := Lib.hid HR
  have HPR : ∀ W i, Below w.heap.size w W → i < ids.length → Calls Try.prog 19 #[.pointer (some ⟨d, 0, none⟩), .int .i64 ((at_ : Int) + 1), .int .u32 i] W fun e w' => e = .returned (.tuple #[.string ⟨(Pm.pageAt D.sure (at_ + 1 + i * 4)).toArray⟩, .int .i64 0]) ∧ Below W.heap.size W w' := fun W i hW hi => by
    have := page_read (at_ + 1) i W base d D (h.below hW) h0 hlo (by omega)
    rwa [show ((at_ + 1 : Nat) : Int) = (at_ : Int) + 1 by omega] at this
  replace HPR := Lib.hid HPR
  have hlen := Pm.markOf_len ids hn8
  have hcount := Pm.markOf_count ids hn8
  have hpage := fun i (hi : i < ids.length) => Pm.markOf_page ids i hi (by have := hids _ (List.getElem_mem hi); omega)
  have hne := Pm.markOf_ne ids
  obtain ⟨MS, hMS⟩ : ∃ MS, MS = Pm.markOf ids := ⟨_, rfl⟩
  rw [← hMS] at HR hlen hcount hpage hne
  obtain ⟨n, hn⟩ : ∃ n, n = ids.length := ⟨_, rfl⟩
  rw [← hn] at hcount hn1 hn8 ⊢
  have HN := Lib.hid hn
  have HG1 : ∀ W, Calls Try.prog 39 #[.string ⟨MS.toArray⟩, .int .i64 1, .int .i64 1] W fun e w' => e = .returned (.tuple #[.int .u64 n, .bool true]) ∧ Below W.heap.size W w' := fun W => by
    have := get_yes MS 1 1 W (by omega) (by omega) (by omega) (by omega)
    rwa [hcount] at this
  replace HG1 := Lib.hid HG1
  have HG : ∀ W i (hi : i < ids.length), Calls Try.prog 39 #[.string ⟨MS.toArray⟩, .int .i64 (2 + 4 * (i : Int)), .int .i64 4] W fun e w' => e = .returned (.tuple #[.int .u64 (ids[i]'hi : Nat), .bool true]) ∧ Below W.heap.size W w' := fun W i hi => by
    have := get_yes MS (2 + 4 * i) 4 W (by omega) (by omega) (by omega) (by omega)
    rw [hpage i hi, show ((2 + 4 * i : Nat) : Int) = 2 + 4 * (i : Int) by omega] at this
    exact this
  replace HG := Lib.hid HG
  have dz : (MS == Pm.zeros 128) = false := beq_eq_false_iff_ne.2 hne
  have HMS := Lib.hid hMS
  have hat2 : at_ ≤ 17000 := by omega
  have hbs2 : bs ≤ 17000 := by omega
  obtain ⟨iz, z, hi, hz, hz0, hz1, hz2⟩ := info47
  have dbs : decide ((bs : Int) < 0) = false := by simp
  have dn1 : decide ((n : Int) < 1) = false := by simp; omega
  have dn8 : decide (8 < (n : Int)) = false := by simp; omega
  clear hMS hn hcount hpage hm hne
  have HFACTS := Lib.hid (And.intro h1 (And.intro h2 (And.intro h0 (And.intro hlo hlen))))
  clear h1 h2 h0 hlo hlen
  go_enter Try.func18, Try.ntmps18
  go_wp2_with fail
  refine (HP.out).mono ?_
  rintro e w1 ⟨rfl, rfl⟩
  go_wp2_with fail
  refine (HR.out).mono ?_
  rintro e w1 ⟨rfl, hb1⟩
  go_wp2_with fail
  refine (clear_any _).mono ?_
  rintro e w2 ⟨rfl, hb2⟩
  go_wp2_with fail
  refine (HG1.out _).mono ?_
  rintro e w3 ⟨rfl, hb3⟩
  have hbw3 := bt (bt hb1 hb2) hb3
  go_wp2_with fail
  clear hb1 hb2 hb3 HG1 HP HR dn1 dn8 dz
  go_loopw [13, 59] (fun v i wr => ∃ k : Nat, k ≤ n ∧ i = .int .i64 k ∧ HomesAt w.heap.size wr v (Pm.backOf D.sure at_ (ids.take k)) ∧ Below w.heap.size w wr) (fun _ i _ => n - (intOf i).toNat)
  case atStart => exact ⟨0, by omega, rfl, World.ownsRow_nil _ _ _ _, hbw3⟩
  case round =>
    clear hbw3
    obtain ⟨k, hk, rfl, hA, hb⟩ := hrel
    by_cases hlt : k < n
    · have hkl : k < ids.length := by have := HN.out; omega
      have hpk := hids _ (List.getElem_mem hkl)
      have HS := Pm.backOf_snoc D.sure at_ ids k hkl
      have HGk := HG.out wr k hkl
      obtain ⟨q, hq⟩ : ∃ q, q = ids[k]'hkl := ⟨_, rfl⟩
      obtain ⟨T, hT⟩ : ∃ T, T = Pm.pageAt D.sure (at_ + 1 + k * 4) := ⟨_, rfl⟩
      rw [← hq] at hpk HS HGk
      rw [← hT] at HS
      replace HS := Lib.hid HS
      replace HGk := Lib.hid HGk
      have HT := Lib.hid hT
      clear hq hT
      have hwk : IntKind.u32.wrap (k : Int) = k := IntWalk.u32_in _ (by omega)
      have hwq : IntKind.u32.wrap (q : Int) = q := IntWalk.u32_in _ (by omega)
      have dk : decide ((k : Int) < (n : Int)) = true := by simp; omega
      go_wp2_with fail
      refine (HGk.out).mono ?_
      rintro e w4 ⟨rfl, hb4⟩
      have hbw4 := bt hb hb4
      have HPk := HPR.out w4 k hbw4 hkl
      rw [← HT.out] at HPk
      replace HPk := Lib.hid HPk
      go_wp2_with fail
      refine (HPk.out).mono ?_
      rintro e w5 ⟨rfl, hb5⟩
      have hbw5 := bt hbw4 hb5
      have hal : (Pm.backOf D.sure at_ (ids.take k)).length ≤ 100 := by rw [Pm.backOf_len, List.length_take]; omega
      have hb6 := ba (Below.refl w5.heap.size w5) (.cells #[.int .u32 q, .string ⟨T.toArray⟩] 47)
      have hA2 := ((hA.below hb4).below hb5).below hb6
      have hbs5 := hbw5.size
      have hbs6 := hb6.size
      have hNew := Blk.new w5 47 #[.int .u32 q, .string ⟨T.toArray⟩]
      go_wp2_with (at_builtin; refine wpList_append_own _ rfl _ _ 41 rfl w.heap.size 47 iz z 2 24 Try.underlying41 hi hz hz0 hz1 hz2 (by decide) _ _ _ rfl hA2 ⟨w5.heap.size, 0, none⟩ 1 1 [.int .u32 q, .string ⟨T.toArray⟩] rfl rfl ?c1 ?c2 ?c3 ?c4 ?c5 ?_)
      case c1 =>
        intro j u hu
        rw [Addr.add_mid, Nat.zero_add, hNew.cell, ← hu]
        simp
      case c2 =>
        intro u hu
        simp at hu
        rcases hu with rfl | rfl <;> rfl
      case c3 => unfold maxLen; omega
      case c4 => omega
      case c5 => omega
      intro v' w7 hown' hgrow _
      have hfin : HomesAt w.heap.size w7 v' (Pm.backOf D.sure at_ (ids.take (k + 1))) := by
        rw [HS.out]
        unfold HomesAt
        rw [List.length_append, List.flatMap_append]
        exact hown'
      have hb' : Below w.heap.size w w7 := (bt hbw5 hb6).grown hgrow (by omega) (fun r hr => (World.ownsRow.lt hA r hr).1)
      clear hown' hgrow hA2 hNew hb6 hA
      go_wp2
      go_roundw
      case rel => exact ⟨k + 1, by omega, by go_num, hfin, hb'⟩
      case measure => simp [intOf]; omega
    · obtain rfl : k = n := by omega
      have hall : ids.take k = ids := List.take_of_length_le (by have := HN.out; omega)
      rw [hall] at hA
      clear hall
      obtain ⟨h1, h2, h0, hlo, hlen⟩ := HFACTS.out
      have hLids := Pm.backOf_ids D.sure at_ ids
      have hLlen : (Pm.backOf D.sure at_ ids).length = k := by rw [Pm.backOf_len]; exact HN.out.symm
      have hLb : ∀ x ∈ Pm.backOf D.sure at_ ids, x.2.length = 512 := fun x hx => by
        obtain ⟨_, i, hi, e⟩ := Pm.backOf_mem hx
        have := HN.out
        rw [e, Pm.pageAt, Pm.pageN_whole D.sure hsec _ 4 (by omega)]
      have hLp : ∀ x ∈ Pm.backOf D.sure at_ ids, bs + x.1 * 4 + 4 ≤ D.sure.length := fun x hx => hpg _ (Pm.backOf_mem hx).1
      obtain ⟨L, hL⟩ : ∃ L, L = Pm.backOf D.sure at_ ids := ⟨_, rfl⟩
      rw [← hL] at hLids hLlen hLb hLp hA
      have HL := Lib.hid hL
      have hLp2 : ∀ x ∈ L, x.1 ≤ 20000 := fun x hx => by have := hLp x hx; omega
      have hLnd : (L.map (·.1)).Nodup := by rw [hLids]; exact hnd
      clear hL HG HPR
      obtain ⟨p, c, hpc⟩ := hA.shape
      rw [hLlen] at hpc
      subst hpc
      have HK := mark_any L _ wr _ hA (by omega) (fun x hx => by have := hLp2 x hx; omega)
      rw [hLids, ← HMS.out] at HK
      replace HK := Lib.hid HK
      have HLE := Lib.hid (fun W (hW : Below w.heap.size w W) => len_any W base d D (h.below hW))
      obtain ⟨m, hm⟩ : ∃ m, m = D.sure.length := ⟨_, rfl⟩
      rw [← hm] at HLE
      have dmb : decide (m < bs) = false := by simp; omega
      have HMM := Lib.hid (fun W (hW : Below w.heap.size w W) (hW2 : Below wr.heap.size wr W) => twinmay_yes at_ bs L _ W base d D (h.below hW) _ (hA.below hW2) h1 (by omega) (by omega) hLb hLp hLnd)
      have hbsw := hb.size
      have hm1 : bs + 1 ≤ 20000 := by omega
      have hLk : L.length ≤ 8 := by omega
      clear hm hLids
      have HLL := Lib.hid hLlen
      clear hLlen
      go_wp2_with fail
      refine (HK.out).mono ?_
      rintro e w2 ⟨rfl, hb2⟩
      have hbw2 := bt hb hb2
      go_wp2_with fail
      refine (HLE.out _ hbw2).mono ?_
      rintro e w3 ⟨rfl, rfl⟩
      go_wp2_with fail
      refine (HMM.out _ hbw2 hb2).mono ?_
      rintro e w3 ⟨rfl, hb3⟩
      have hbw3 := bt hbw2 hb3
      have hbr3 := bt hb2 hb3
      have hwl2 := Pm.homeW_len bs L
      rw [HLL.out] at hwl2
      replace hwl2 := Lib.hid hwl2
      have HH2 := Lib.hid (homes_any bs d L _ w3 _ (hA.below hbr3) (by omega) (by omega) hLb hLp2)
      clear HMM HLE HK dmb
      go_wp2_with fail
      refine (HH2.out).mono ?_
      rintro e w6 ⟨v4, rfl, hC4, hb6⟩
      clear HH2
      have hbw6 := bt hbw3 hb6
      have hbs3 := hbw3.size
      have hC4 := hC4.weaken hbs3
      go_wp2_with fail
      refine (clear_any _).mono ?_
      rintro e w8 ⟨rfl, hb8⟩
      have hbw8 := bt hbw6 hb8
      have HMK := Lib.hid (marks_any at_ d (Pm.zeros 128) w8 (Pm.zeros_length _) 0 (Nat.zero_le _))
      go_wp2_with fail
      refine (HMK.out).mono ?_
      rintro e w9 ⟨v6, rfl, hC6, hb9⟩
      clear HMK
      have hbw9 := bt hbw8 hb9
      have hC5 := (hC4.below hb8).below hb9
      have hbs9 := hbw9.size
      go_wp2_with (at_builtin; refine wpList_append_calls _ rfl _ _ rfl w.heap.size 0 d v4 v6 _ _ rfl rfl hC5 hC6 (by simp) hbs9 (by have := hwl2.out; simp; omega) ?_)
      intro v7 w10 hC7 hbA
      have hbw10 := hbA hbw9 (Nat.le_refl _)
      clear hC5 hC6 hbA
      have hok : ∀ c ∈ Pm.backCalls at_ bs L, c.ok D.sure.length := Pm.backCalls_ok at_ bs _ L hat hLb hLp
      have hlen : D.loose.length + (Pm.backCalls at_ bs L).length < 1000000 := by
        rw [hlo]
        unfold Pm.backCalls
        have := hwl2.out
        simp
        omega
      have hC7 : CallsAt w.heap.size w10 d v7 (Pm.backCalls at_ bs L) := by simpa [Pm.backCalls] using hC7
      have HST := steps_any (Pm.backCalls at_ bs L) v7 _ w10 base d D (h.below hbw10) hC7 hok hlen
      rw [HL.out, ← HRR.out] at HST
      clear hok hlen hC7 hwl2 h0 hlo h1 h2 h hA hLb hLp hLp2 hLnd
      dsimp only at HST
      cases b
      · have hc : Pm.code false = 40 := rfl
        rw [hc] at HST
        replace HST := Lib.hid HST
        go_wp2_with fail
        refine (HST.out).mono ?_
        rintro e w11 ⟨rfl, hI, hK⟩
        go_wp2_with fail
        go_ret2
        exact ⟨rfl, hI, (Kept.below hbw10).trans hK⟩
      · have hc : Pm.code true = 0 := rfl
        rw [hc] at HST
        replace HST := Lib.hid HST
        go_wp2_with fail
        refine (HST.out).mono ?_
        rintro e w11 ⟨rfl, hI, hK⟩
        go_wp2_with fail
        go_ret2
        exact ⟨rfl, hI, (Kept.below hbw10).trans hK⟩
end Go.Proofs.Ytkbjmgenceghlaa
