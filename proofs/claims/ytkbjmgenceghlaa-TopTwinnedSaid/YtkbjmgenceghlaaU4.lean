/- Calls by hand: the walk of 'runs'. -/
import Derived.Test.YtkbjmgenceghlaaU3
namespace Go.Proofs.Ytkbjmgenceghlaa
open Go.RowKit
theorem crow_new1 (w : World) (k : Nat) (s : List UInt8) {g : Nat} (hg : w.heap.size = g) : CRow 0 (w.alloc (.cells #[.int .i64 k, .string ⟨s.toArray⟩] 32)) (.slice (some ⟨g, 0, none⟩) 1 1) [.wr k s] :=
  ⟨rfl, .inr ⟨g, 1, #[.int .i64 k, .string ⟨s.toArray⟩], rfl, Nat.zero_le _, Blk.newAt w 32 _ hg, Nat.le_refl _, by unfold maxLen; omega, rfl, rfl⟩⟩
theorem Only.trans_new {a b c : World} {g : Nat} {row : Option Nat} (h : Only a b g) (k : b.grownBy c row) (hr : ∀ r, row = some r → a.heap.size ≤ r) : Only a c g :=
  ⟨k.os.trans h.os, k.tape.trans h.tape, k.output.trans h.output, Nat.le_trans h.size k.size, fun i hi hne => (k.block i (Nat.lt_of_lt_of_le hi h.size) (fun e => by have := hr i e.symm; omega)).trans (h.block i hi hne)⟩
set_option maxRecDepth 100000 in
set_option maxHeartbeats 4000000 in
theorem runs_any (cs : List Pm.Cl) (fuse bx bk gs : Nat) (v kv : Value) (keep : List Bool) (u : List (List UInt8)) (w : World) (base : Nat) (hC : CRow 0 w v cs) (hS : SureAt w bx gs u) (hKb : Blk w bk 23 #[kv]) (hk : BoolsAt base w kv keep) (hgs : base ≤ gs)
    (hok : ∀ c ∈ cs, c.ok u.length) (hn : cs.length ≤ 1000) (hf : fuse ≤ 100000) (hm : u.length ≤ 100000) (hkl : keep.length ≤ 9223372036854775807) :
    Calls Try.prog 6 #[v, .int .i64 fuse, .pointer (some ⟨bx, 0, none⟩), .pointer (some ⟨bk, 0, none⟩)] w fun e w' => e = .returned (.bool (decide (cs.length ≤ fuse))) ∧ SureAt w' bx gs (Pm.runsOf u cs fuse keep) ∧ Only w w' gs := by
  obtain ⟨p, c, rfl⟩ := hC.shape
  obtain ⟨pk, ck, rfl⟩ : ∃ pk ck, kv = .slice pk keep.length ck := by
    obtain ⟨pk, ck, e, _⟩ := hk
    exact ⟨pk, ck, e⟩
  obtain ⟨n, hn'⟩ : ∃ n, n = cs.length := ⟨_, rfl⟩
  rw [← hn'] at hn ⊢
  have HN := Lib.hid hn'
  obtain ⟨b, hb⟩ : ∃ b, b = decide (n ≤ fuse) := ⟨_, rfl⟩
  obtain ⟨R, hR⟩ : ∃ R, R = Pm.runsOf u cs fuse keep := ⟨_, rfl⟩
  rw [← hb, ← hR]
  have HB := Lib.hid hb
  have HR := Lib.hid hR
  have hlen := fun j => Pm.hands_length u (cs.take j)
  have hlo := fun j => Pm.hands_loose u u.length (cs.take j) (fun c hc => hok c (List.mem_of_mem_take hc))
  have hcn := fun j => Nat.le_trans (Pm.hands_count u (cs.take j)) (List.length_take_le j cs)
  obtain ⟨m, hm'⟩ : ∃ m, m = u.length := ⟨_, rfl⟩
  rw [← hm'] at hm
  have HM := Lib.hid hm'
  replace hlen := Lib.hid hlen
  replace hlo := Lib.hid hlo
  replace hcn := Lib.hid hcn
  have hwlt : w.heap.size = w.heap.size := rfl
  clear hn' hb hR hm' hwlt
  have hgl := hS.row.lt
  have hne1 := hS.box.ne_ hS.row (by decide)
  have hne2 := hKb.ne_ hS.row (by decide)
  go_enter Try.func6, Try.ntmps6
  go_wp2_with fail
  go_loopw [7, 16] (fun lv i wr => ∃ j : Nat, j ≤ n ∧ j ≤ fuse ∧ i = .int .i64 j ∧ CRow w.heap.size wr lv ((Pm.hands u (cs.take j)).2.map Pm.wrC) ∧ SureAt wr bx gs (Pm.hands u (cs.take j)).1 ∧ Only w wr gs) (fun _ i _ => n - (intOf i).toNat)
  case atStart => exact ⟨0, by omega, by omega, rfl, World.ownsRow_nil _ _ _ _, hS, Only.refl _ _⟩
  case round =>
    obtain ⟨wo, rfl⟩ : ∃ wo : World, wo = wr := ⟨_, rfl⟩
    obtain ⟨j, hj, hjf, rfl, hL, hSu, hO⟩ := hrel
    have hCo := hC.only hO hS.row (by decide)
    have hko := hk.only hO hgs
    have hKo : Blk wo bk 23 #[.slice pk keep.length ck] := hKb.grown hO (fun e => by cases e; exact hne2 rfl)
    clear hS
    by_cases hlt : j < n
    · have hjc : j < cs.length := by have := HN.out; omega
      obtain ⟨g, c', e, hgl2, hc0, hc1⟩ := hCo.get j hjc
      injection e with e1 e2 e3
      subst e1 e3
      clear e2
      have hsn := Pm.hands_snoc u cs j hjc
      have hxok := hok _ (List.getElem_mem hjc)
      obtain ⟨x, hx⟩ : ∃ x, x = cs[j]'hjc := ⟨_, rfl⟩
      rw [← hx] at hc0 hc1 hsn hxok
      replace hsn := Lib.hid hsn
      replace hxok := Lib.hid hxok
      clear hx
      by_cases hjf2 : j = fuse
      · -- the fuse has burnt
        subst hjf2
        have hb1 := ba (Below.refl wo.heap.size wo) (.cells #[.int .i64 x.num, .string ⟨x.txt.toArray⟩] 32)
        have hL1 := hL.below hb1
        have hSu1 := hSu.below hb1
        have hO1 := hO.below hb1
        have hKo1 := hKo.after hb1
        have hko1 : BoolsAt base (wo.alloc (.cells #[.int .i64 x.num, .string ⟨x.txt.toArray⟩] 32)) (.slice pk keep.length ck) keep := hko.kept (Kept.below hb1)
        have hbf : b = false := by rw [HB.out]; simp; omega
        have htk : cs.take j = cs.take j := rfl
        obtain ⟨lw, hlw⟩ : ∃ lw, lw = (Pm.hands u (cs.take j)).2 := ⟨_, rfl⟩
        obtain ⟨uu, huu⟩ : ∃ uu, uu = (Pm.hands u (cs.take j)).1 := ⟨_, rfl⟩
        have hRf : R = Pm.puts uu (Pm.keepL lw keep) := by rw [HR.out, hlw, huu]; rfl
        have hll : lw.length ≤ 1000 := by rw [hlw]; have := hcn.out j; have := HN.out; omega
        have hla : ∀ y ∈ lw, y.1 < uu.length ∧ y.2.length = 128 := by rw [hlw, huu, hlen.out j]; exact hlo.out j
        rw [← hlw] at hL1
        rw [← huu] at hSu1
        subst hbf
        obtain ⟨pl, cl, hpl⟩ := hL1.shape
        rw [List.length_map] at hpl
        subst hpl
        have hum : Hid (uu.length = m) := Lib.hid (by rw [huu, hlen.out j, HM.out])
        have HRf := Lib.hid hRf
        replace hla := Lib.hid hla
        clear htk hlw huu hL hSu hO hb1 hCo hko hKo hRf
        have dn : decide (n ≤ j) = false := by simp; omega
        go_wp2_with fail
        generalize wo.alloc (.cells #[.int .i64 x.num, .string ⟨x.txt.toArray⟩] 32) = W0 at *
        go_loopw [47] (fun i wr => ∃ q : Nat, q ≤ lw.length ∧ i = .int .i64 q ∧ SureAt wr bx gs (Pm.puts uu (Pm.keepL (lw.take q) (keep.take q))) ∧ Only W0 wr gs) (fun i _ => lw.length - (intOf i).toNat)
        case atStart => exact ⟨0, by omega, rfl, by simpa [Pm.keepL, Pm.puts] using hSu1, Only.refl _ _⟩
        case round =>
          obtain ⟨q, hq, rfl, hSq, hOq⟩ := hrel
          have hul : (Pm.puts uu (Pm.keepL (lw.take q) (keep.take q))).length = m := by rw [Pm.puts_length, hum.out]
          have hLq := hL1.only hOq hSu1.row (by decide)
          have hkq := hko1.only hOq hgs
          have hKq : Blk wr bk 23 #[.slice pk keep.length ck] := hKo1.grown hOq (fun e => by cases e; exact hne2 rfl)
          by_cases hlq : q < lw.length
          · obtain ⟨g3, c3, e, hgl3, hd0, hd1⟩ := hLq.get q (by simpa using hlq)
            rw [List.length_map] at e
            injection e with e1 e2 e3
            subst e1 e3
            clear e2
            obtain ⟨hy1, hy2⟩ := hla.out _ (List.getElem_mem hlq)
            have hkn := fun h => Pm.keepL_snoc lw keep q hlq h
            obtain ⟨y, hy⟩ : ∃ y, y = lw[q]'hlq := ⟨_, rfl⟩
            have hd0' : wr.cell? ⟨g3, q * 2, none⟩ = some (.int .i64 (y.1 : Int)) := by rw [hd0, List.getElem_map, ← hy]; rfl
            have hd1' : wr.cell? ⟨g3, q * 2 + 1, none⟩ = some (.string ⟨y.2.toArray⟩) := by rw [hd1, List.getElem_map, ← hy]; rfl
            simp only [← hy] at hy1 hkn
            clear hd0 hd1 hy hy2
            have hb2 := ba (Below.refl wr.heap.size wr) (.cells #[.int .i64 y.1, .string ⟨y.2.toArray⟩] 32)
            have hS2 := hSq.below hb2
            have hO2 := hOq.below hb2
            have cK := hKq.cell
            have lK := hKq.lt
            have nK := Nat.ne_of_lt lK
            by_cases hqk : q < keep.length
            · have hkc : ∃ b o, pk = some ⟨b, o, none⟩ ∧ wr.cell? ⟨b, o + q, none⟩ = some (.bool (keep[q]'hqk)) := by
                obtain ⟨p', c', e, h | ⟨b, o, hb, hp, h⟩⟩ := hkq
                · rw [h] at hqk; simp at hqk
                · injection e with e1 _ _
                  exact ⟨b, o, e1.trans hp, h q hqk⟩
              obtain ⟨kb, ko, hpk, hkcell⟩ := hkc
              have hkn2 := hkn hqk
              obtain ⟨z, hz⟩ : ∃ z, z = keep[q]'hqk := ⟨_, rfl⟩
              rw [← hz] at hkcell hkn2
              have dqk : decide (q < keep.length) = true := by simp; omega
              subst hpk
              have lkb := World.block_lt_of_cell? wr ⟨kb, ko + q, none⟩ hkcell
              have nkb := Nat.ne_of_lt lkb
              cases z
              · have hfin : Pm.keepL (lw.take q) (keep.take q) = Pm.keepL (lw.take (q + 1)) (keep.take (q + 1)) := by rw [hkn2]; simp
                rw [hfin] at hS2
                clear hfin hkn hkn2 hz
                go_wp2_with fail
                go_roundw
                case rel => exact ⟨q + 1, by omega, by go_num, hS2, hO2⟩
                case measure => simp [intOf]; omega
              · have hfin : (Pm.puts uu (Pm.keepL (lw.take q) (keep.take q))).set y.1 y.2 = Pm.puts uu (Pm.keepL (lw.take (q + 1)) (keep.take (q + 1))) := by rw [hkn2, Pm.puts_app]; rfl
                have hS3 := hS2.set y.1 y.2
                rw [hfin] at hS3
                have hO3 := hO2.set_ y.1 (.string ⟨y.2.toArray⟩)
                have hym : y.1 < m := by rw [← hum.out]; exact hy1
                have hbox := hS2.box.cell 0
                rw [hul] at hbox
                change _ = some (Value.slice (some ⟨gs, 0, none⟩) m m) at hbox
                obtain ⟨old, hrow⟩ : ∃ s : List UInt8, (wr.alloc (.cells #[.int .i64 y.1, .string ⟨y.2.toArray⟩] 32)).cell? ⟨gs, y.1, none⟩ = some (.string ⟨s.toArray⟩) := ⟨_, (hS2.row.cell y.1).trans (sureArr_get _ _ (by rw [hul]; exact hym))⟩
                have hfrz := hS2.row.frozen y.1
                clear hfin hkn hkn2 hz hS2 hO2 hul hy1
                go_wp2_with fail
                go_roundw
                case rel => exact ⟨q + 1, by omega, by go_num, hS3, hO3⟩
                case measure => simp [intOf]; omega
            · have hfin : Pm.keepL (lw.take q) (keep.take q) = Pm.keepL (lw.take (q + 1)) (keep.take (q + 1)) := by rw [Pm.keepL_all _ _ q (.inr (by omega)), Pm.keepL_all _ _ (q + 1) (.inr (by omega))]
              rw [hfin] at hS2
              have dqk : decide (q < keep.length) = false := by simp; omega
              clear hfin hkn
              go_wp2_with fail
              go_roundw
              case rel => exact ⟨q + 1, by omega, by go_num, hS2, hO2⟩
              case measure => simp [intOf]; omega
          · have hfin : Pm.puts uu (Pm.keepL (lw.take q) (keep.take q)) = R := by rw [HRf.out, Pm.keepL_all _ _ q (.inl (by omega))]
            rw [hfin] at hSq
            clear hfin hul
            go_wp2_with fail
            go_ret
            exact ⟨rfl, hSq, hO1.trans hOq⟩
      · have hjlt : j < fuse := by omega
        have hjne : ((j : Int) == (fuse : Int)) = false := beq_eq_false_iff_ne.2 (by omega)
        have hcnt := hcn.out j
        have hlj := hlen.out j
        rw [← HM.out] at hlj
        have hloj := hlo.out j
        rw [← HM.out] at hloj
        obtain ⟨lw, hlw⟩ : ∃ lw, lw = (Pm.hands u (cs.take j)).2 := ⟨_, rfl⟩
        obtain ⟨uu, huu⟩ : ∃ uu, uu = (Pm.hands u (cs.take j)).1 := ⟨_, rfl⟩
        have hst : Pm.hands u (cs.take j) = (uu, lw) := by rw [hlw, huu]
        have hsn2 := hsn.out
        rw [hst] at hsn2
        rw [← hlw] at hL hcnt hloj
        rw [← huu] at hSu hlj
        clear hlw huu hst hsn hjf2 hKo hko hCo
        cases x with
        | wr k s =>
          have hfin : Pm.hands u (cs.take (j + 1)) = (uu, lw ++ [(k, s)]) := hsn2
          have HF := Lib.hid hfin
          have hd0 : wo.cell? ⟨g, j * 2, none⟩ = some (.int .i64 (k : Int)) := hc0
          have hd1 : wo.cell? ⟨g, j * 2 + 1, none⟩ = some (.string ⟨s.toArray⟩) := hc1
          clear hfin hsn2 hc0 hc1 hxok
          have hb1 := ba (ba (Below.refl wo.heap.size wo) (.cells #[.int .i64 k, .string ⟨s.toArray⟩] 32)) (.cells #[.int .i64 k, .string ⟨s.toArray⟩] 32)
          have hL1 := hL.below hb1
          have hSu1 := hSu.below hb1
          have hO1 := hO.below hb1
          have hN1 := crow_new1 (wo.alloc (.cells #[.int .i64 k, .string ⟨s.toArray⟩] 32)) k s (g := wo.heap.size + 1) (by simp)
          have hsz := hO1.size
          clear hb1 hL hSu hO
          go_wp2_with (at_builtin; refine wpList_append_crow _ rfl _ _ rfl w.heap.size 0 _ _ _ _ rfl rfl hL1 hN1 (by simp) hsz (by simp; omega) ?_)
          intro v' w2 hL2 hgr _
          have hSu2 := hSu1.grown hgr (owns_ne_ty hL1 hSu1.box (by decide)) (owns_ne_ty hL1 hSu1.row (by decide))
          have hO2 : Only w w2 gs := hO1.trans_new hgr (fun r hr => (World.ownsRow.lt hL1 r hr).1)
          clear hgr hL1 hN1 hSu1 hO1 hsz
          go_wp2
          go_roundw
          case rel => exact ⟨j + 1, by omega, by omega, by go_num, by rw [HF.out, List.map_append]; exact hL2, by rw [HF.out]; exact hSu2, hO2⟩
          case measure => simp [intOf]; omega
        | sync =>
          have hfin : Pm.hands u (cs.take (j + 1)) = (Pm.puts uu lw, []) := hsn2
          have HF := Lib.hid hfin
          have hd0 : wo.cell? ⟨g, j * 2, none⟩ = some (.int .i64 (-1)) := hc0
          have hd1 : wo.cell? ⟨g, j * 2 + 1, none⟩ = some (.string ⟨#[]⟩) := hc1
          clear hfin hsn2 hc0 hc1 hxok
          have hb1 := ba (Below.refl wo.heap.size wo) (.cells #[.int .i64 (-1), .string ⟨#[]⟩] 32)
          have hL1 := hL.below hb1
          have hSu1 := hSu.below hb1
          have hO1 := hO.below hb1
          obtain ⟨pl, cl, hpl⟩ := hL1.shape
          rw [List.length_map] at hpl
          subst hpl
          have hum : Hid (uu.length = m) := Lib.hid hlj
          replace hloj := Lib.hid hloj
          clear hb1 hL hSu hO hlj
          go_wp2_with fail
          generalize wo.alloc (.cells #[.int .i64 (-1), .string ⟨#[]⟩] 32) = W0 at *
          go_loopw [33] (fun i wr => ∃ q : Nat, q ≤ lw.length ∧ i = .int .i64 q ∧ SureAt wr bx gs (Pm.puts uu (lw.take q)) ∧ Only W0 wr gs) (fun i _ => lw.length - (intOf i).toNat)
          case atStart => exact ⟨0, by omega, rfl, by simpa [Pm.puts] using hSu1, Only.refl _ _⟩
          case round =>
            obtain ⟨q, hq, rfl, hSq, hOq⟩ := hrel
            have hul : (Pm.puts uu (lw.take q)).length = m := by rw [Pm.puts_length, hum.out]
            have hLq := hL1.only hOq hSu1.row (by decide)
            by_cases hlq : q < lw.length
            · obtain ⟨g3, c3, e, hgl3, hd2, hd3⟩ := hLq.get q (by simpa using hlq)
              rw [List.length_map] at e
              injection e with e1 e2 e3
              subst e1 e3
              clear e2
              obtain ⟨hy1, hy2⟩ := hloj.out _ (List.getElem_mem hlq)
              have hps := Pm.puts_snoc uu lw q hlq
              obtain ⟨y, hy⟩ : ∃ y, y = lw[q]'hlq := ⟨_, rfl⟩
              have hd2' : wr.cell? ⟨g3, q * 2, none⟩ = some (.int .i64 (y.1 : Int)) := by rw [hd2, List.getElem_map, ← hy]; rfl
              have hd3' : wr.cell? ⟨g3, q * 2 + 1, none⟩ = some (.string ⟨y.2.toArray⟩) := by rw [hd3, List.getElem_map, ← hy]; rfl
              simp only [← hy] at hy1 hps
              clear hd2 hd3 hy hy2
              have hb2 := ba (Below.refl wr.heap.size wr) (.cells #[.int .i64 y.1, .string ⟨y.2.toArray⟩] 32)
              have hS2 := hSq.below hb2
              have hS3 := hS2.set y.1 y.2
              rw [← hps] at hS3
              have hO3 := (hOq.below hb2).set_ y.1 (.string ⟨y.2.toArray⟩)
              have hbox := hS2.box.cell 0
              rw [hul] at hbox
              change _ = some (Value.slice (some ⟨gs, 0, none⟩) m m) at hbox
              obtain ⟨old, hrow⟩ : ∃ s : List UInt8, (wr.alloc (.cells #[.int .i64 y.1, .string ⟨y.2.toArray⟩] 32)).cell? ⟨gs, y.1, none⟩ = some (.string ⟨s.toArray⟩) := ⟨_, (hS2.row.cell y.1).trans (sureArr_get _ _ (by rw [hul]; exact hy1))⟩
              have hfrz := hS2.row.frozen y.1
              clear hps hS2 hul hSq hOq hLq
              go_wp2_with fail
              go_roundw
              case rel => exact ⟨q + 1, by omega, by go_num, hS3, hO3⟩
              case measure => simp [intOf]; omega
            · have hall : lw.take q = lw := List.take_of_length_le (by omega)
              rw [hall] at hSq
              clear hall hul hLq
              go_wp2_with fail
              go_roundw
              case rel => exact ⟨j + 1, by omega, by omega, by go_num, by rw [HF.out]; exact World.ownsRow_nil _ _ _ _, by rw [HF.out]; exact hSq, hO1.trans hOq⟩
              case measure => simp [intOf]; omega
    · -- all have been done
      obtain rfl : j = n := by omega
      have hbf : b = true := by rw [HB.out]; simp; omega
      have htk : cs.take fuse = cs.take j := by
        have := HN.out
        rw [List.take_of_length_le (by omega), List.take_of_length_le (by omega)]
      obtain ⟨lw, hlw⟩ : ∃ lw, lw = (Pm.hands u (cs.take j)).2 := ⟨_, rfl⟩
      obtain ⟨uu, huu⟩ : ∃ uu, uu = (Pm.hands u (cs.take j)).1 := ⟨_, rfl⟩
      have hRf : R = Pm.puts uu (Pm.keepL lw keep) := by rw [HR.out, hlw, huu, Pm.runsOf, htk]
      have hll : lw.length ≤ 1000 := by rw [hlw]; have := hcn.out j; have := HN.out; omega
      have hla : ∀ y ∈ lw, y.1 < uu.length ∧ y.2.length = 128 := by rw [hlw, huu, hlen.out j]; exact hlo.out j
      rw [← hlw] at hL
      rw [← huu] at hSu
      subst hbf
      obtain ⟨pl, cl, hpl⟩ := hL.shape
      rw [List.length_map] at hpl
      subst hpl
      have hum : Hid (uu.length = m) := Lib.hid (by rw [huu, hlen.out j, HM.out])
      have HRf := Lib.hid hRf
      replace hla := Lib.hid hla
      have hL1 := hL
      have hSu1 := hSu
      have hO1 := hO
      have hKo1 := hKo
      have hko1 := hko
      obtain ⟨W0, hW0⟩ : ∃ W0, W0 = wo := ⟨_, rfl⟩
      subst hW0
      clear htk hlw huu hL hSu hO hCo hko hKo hRf
      have dn : decide (j ≤ fuse) = true := by simp; omega
      go_wp2_with fail
      go_loopw [47] (fun i wr => ∃ q : Nat, q ≤ lw.length ∧ i = .int .i64 q ∧ SureAt wr bx gs (Pm.puts uu (Pm.keepL (lw.take q) (keep.take q))) ∧ Only W0 wr gs) (fun i _ => lw.length - (intOf i).toNat)
      case atStart => exact ⟨0, by omega, rfl, by simpa [Pm.keepL, Pm.puts] using hSu1, Only.refl _ _⟩
      case round =>
        obtain ⟨q, hq, rfl, hSq, hOq⟩ := hrel
        have hul : (Pm.puts uu (Pm.keepL (lw.take q) (keep.take q))).length = m := by rw [Pm.puts_length, hum.out]
        have hLq := hL1.only hOq hSu1.row (by decide)
        have hkq := hko1.only hOq hgs
        have hKq : Blk wr bk 23 #[.slice pk keep.length ck] := hKo1.grown hOq (fun e => by cases e; exact hne2 rfl)
        by_cases hlq : q < lw.length
        · obtain ⟨g3, c3, e, hgl3, hd0, hd1⟩ := hLq.get q (by simpa using hlq)
          rw [List.length_map] at e
          injection e with e1 e2 e3
          subst e1 e3
          clear e2
          obtain ⟨hy1, hy2⟩ := hla.out _ (List.getElem_mem hlq)
          have hkn := fun h => Pm.keepL_snoc lw keep q hlq h
          obtain ⟨y, hy⟩ : ∃ y, y = lw[q]'hlq := ⟨_, rfl⟩
          have hd0' : wr.cell? ⟨g3, q * 2, none⟩ = some (.int .i64 (y.1 : Int)) := by rw [hd0, List.getElem_map, ← hy]; rfl
          have hd1' : wr.cell? ⟨g3, q * 2 + 1, none⟩ = some (.string ⟨y.2.toArray⟩) := by rw [hd1, List.getElem_map, ← hy]; rfl
          simp only [← hy] at hy1 hkn
          clear hd0 hd1 hy hy2
          have hb2 := ba (Below.refl wr.heap.size wr) (.cells #[.int .i64 y.1, .string ⟨y.2.toArray⟩] 32)
          have hS2 := hSq.below hb2
          have hO2 := hOq.below hb2
          have cK := hKq.cell
          have lK := hKq.lt
          have nK := Nat.ne_of_lt lK
          by_cases hqk : q < keep.length
          · have hkc : ∃ b o, pk = some ⟨b, o, none⟩ ∧ wr.cell? ⟨b, o + q, none⟩ = some (.bool (keep[q]'hqk)) := by
              obtain ⟨p', c', e, h | ⟨b, o, hb, hp, h⟩⟩ := hkq
              · rw [h] at hqk; simp at hqk
              · injection e with e1 _ _
                exact ⟨b, o, e1.trans hp, h q hqk⟩
            obtain ⟨kb, ko, hpk, hkcell⟩ := hkc
            have hkn2 := hkn hqk
            obtain ⟨z, hz⟩ : ∃ z, z = keep[q]'hqk := ⟨_, rfl⟩
            rw [← hz] at hkcell hkn2
            have dqk : decide (q < keep.length) = true := by simp; omega
            subst hpk
            have lkb := World.block_lt_of_cell? wr ⟨kb, ko + q, none⟩ hkcell
            have nkb := Nat.ne_of_lt lkb
            cases z
            · have hfin : Pm.keepL (lw.take q) (keep.take q) = Pm.keepL (lw.take (q + 1)) (keep.take (q + 1)) := by rw [hkn2]; simp
              rw [hfin] at hS2
              clear hfin hkn hkn2 hz
              go_wp2_with fail
              go_roundw
              case rel => exact ⟨q + 1, by omega, by go_num, hS2, hO2⟩
              case measure => simp [intOf]; omega
            · have hfin : (Pm.puts uu (Pm.keepL (lw.take q) (keep.take q))).set y.1 y.2 = Pm.puts uu (Pm.keepL (lw.take (q + 1)) (keep.take (q + 1))) := by rw [hkn2, Pm.puts_app]; rfl
              have hS3 := hS2.set y.1 y.2
              rw [hfin] at hS3
              have hO3 := hO2.set_ y.1 (.string ⟨y.2.toArray⟩)
              have hym : y.1 < m := by rw [← hum.out]; exact hy1
              have hbox := hS2.box.cell 0
              rw [hul] at hbox
              change _ = some (Value.slice (some ⟨gs, 0, none⟩) m m) at hbox
              obtain ⟨old, hrow⟩ : ∃ s : List UInt8, (wr.alloc (.cells #[.int .i64 y.1, .string ⟨y.2.toArray⟩] 32)).cell? ⟨gs, y.1, none⟩ = some (.string ⟨s.toArray⟩) := ⟨_, (hS2.row.cell y.1).trans (sureArr_get _ _ (by rw [hul]; exact hym))⟩
              have hfrz := hS2.row.frozen y.1
              clear hfin hkn hkn2 hz hS2 hO2 hul hy1
              go_wp2_with fail
              go_roundw
              case rel => exact ⟨q + 1, by omega, by go_num, hS3, hO3⟩
              case measure => simp [intOf]; omega
          · have hfin : Pm.keepL (lw.take q) (keep.take q) = Pm.keepL (lw.take (q + 1)) (keep.take (q + 1)) := by rw [Pm.keepL_all _ _ q (.inr (by omega)), Pm.keepL_all _ _ (q + 1) (.inr (by omega))]
            rw [hfin] at hS2
            have dqk : decide (q < keep.length) = false := by simp; omega
            clear hfin hkn
            go_wp2_with fail
            go_roundw
            case rel => exact ⟨q + 1, by omega, by go_num, hS2, hO2⟩
            case measure => simp [intOf]; omega
        · have hfin : Pm.puts uu (Pm.keepL (lw.take q) (keep.take q)) = R := by rw [HRf.out, Pm.keepL_all _ _ q (.inl (by omega))]
          rw [hfin] at hSq
          clear hfin hul
          go_wp2_with fail
          go_ret
          exact ⟨rfl, hSq, hO1.trans hOq⟩
end Go.Proofs.Ytkbjmgenceghlaa
