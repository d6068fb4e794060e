/- Calls by hand, in slices: what 'Grow' and 'Concat' answer. -/
import Derived.Test.YtkbjmgenceghlaaT9
import Derived.Lib.AppendZerosOnto
namespace Go.Proofs.Ytkbjmgenceghlaa
open Go.RowKit
namespace Pm
/-- a call's number, and its sector -/
def Cl.num : Cl → Int
  | .wr k _ => k
  | .sync => -1
def Cl.txt : Cl → List UInt8
  | .wr _ s => s
  | .sync => []
end Pm
def clCells (c : Pm.Cl) : List Value := [.int .i64 c.num, .string ⟨c.txt.toArray⟩]
/-- calls in a slice -/
def CRow (base : Nat) (w : World) (v : Value) (cs : List Pm.Cl) : Prop := w.ownsRow base 32 2 v cs.length (cs.flatMap clCells)
theorem clCells_len (c : Pm.Cl) : (clCells c).length = 2 := rfl
theorem clCells_one {c : Pm.Cl} {v : Value} (h : v ∈ clCells c) : v.oneCell' = true := by
  simp [clCells] at h
  rcases h with rfl | rfl <;> rfl
theorem crow_one {cs : List Pm.Cl} {v : Value} (h : v ∈ cs.flatMap clCells) : v.oneCell' = true := by
  obtain ⟨c, _, hc⟩ := List.mem_flatMap.1 h
  exact clCells_one hc
theorem CRow.below {base : Nat} {w w' : World} {v : Value} {cs : List Pm.Cl} (h : CRow base w v cs) (hb : Below w.heap.size w w') : CRow base w' v cs :=
  World.ownsRow.kept (row := none) h ⟨hb.os, hb.tape, hb.output, hb.size, fun k hk _ => hb.block k hk⟩ (by cases v.ownBlock <;> simp)
theorem CRow.holds {base : Nat} {w w' : World} {v : Value} {cs : List Pm.Cl} (h : CRow base w v cs) (hh : Holds w w') : CRow base w' v cs := owns_holds h hh rfl
theorem CRow.shape {base : Nat} {w : World} {v : Value} {cs : List Pm.Cl} (h : CRow base w v cs) : ∃ p c, v = .slice p cs.length c := by
  rcases h.2 with ⟨h1, h2⟩ | ⟨g, cap, cur, h1, _⟩
  · rw [h2]; exact ⟨_, _, h1⟩
  · exact ⟨_, _, h1⟩
theorem crow_len (cs : List Pm.Cl) : (cs.flatMap clCells).length = cs.length * 2 := rows_len clCells cs (fun _ _ => rfl)
theorem CRow.get {base : Nat} {w : World} {v : Value} {l : List Pm.Cl} (h : CRow base w v l) (k : Nat) (hk : k < l.length) :
    ∃ g c, v = .slice (some ⟨g, 0, none⟩) l.length c ∧ g < w.heap.size ∧ w.cell? ⟨g, k * 2, none⟩ = some (.int .i64 (l[k]'hk).num) ∧ w.cell? ⟨g, k * 2 + 1, none⟩ = some (.string ⟨(l[k]'hk).txt.toArray⟩) := by
  obtain ⟨n, hn⟩ : ∃ n, l.length = n + 1 := ⟨l.length - 1, by omega⟩
  have h' : w.ownsRow base 32 2 v (n + 1) (l.flatMap clCells) := by rw [← hn]; exact h
  obtain ⟨g, cap, rfl⟩ := owns_succ h'
  obtain ⟨cap', cur, e, hb, hB, h3, h4, h5, h6⟩ := owns_blk h' (g := g) rfl
  have hr := rows_range clCells (size := 2) (n := n + 1) (by omega) l (fun x _ => rfl) hB hn h6 k hk
  refine ⟨g, cap, by rw [hn], hB.lt, ?_, ?_⟩
  · simpa using hr 0 _ rfl
  · simpa using hr 1 _ rfl
theorem info32 : ∃ i z, Try.prog.info? 32 = some i ∧ i.zero = some z ∧ i.size = 2 ∧ i.bytes = 24 ∧ z.cells.size = 2 := info_size (by kernel_rfl)
set_option maxRecDepth 100000 in
set_option maxHeartbeats 1000000 in
theorem grow_any (n : Nat) (w : World) (h1 : 1 ≤ n) (h2 : n ≤ 100000) :
    Calls Try.prog 28 #[.slice none 0 0, .int .i64 n] w fun e w' => ∃ v, e = .returned v ∧ CRow w.heap.size w' v [] ∧ Below w.heap.size w w' := by
  obtain ⟨i, z, hi, hz, hs, hby, hzs⟩ := info32
  have hap : ∀ ty, (Builtin.append_ #[30, 3] ty #[.slice none 0 0, .int .i64 (n : Int)]).run Try.prog w = .ok (.slice (some ⟨w.heap.size, 0, none⟩) n (grownCap w n 0 32)) (w.drew.alloc (.cells (#[] ++ Builtin.zeroCells z.cells n ++ Builtin.zeroCells z.cells (grownCap w n 0 32 - n)) 32)) := fun ty => by
    have h := Lib.run_append_grow_zeros (P := Try.prog) w 30 3 ty 32 i z .i64 .i64 Try.underlying30 Try.underlying3 hi hz none 0 0 [] (run_firstCells_none w.drew i.size 0 0 0) n (by omega) (by omega) (by omega) (by omega)
      (by rw [hby]; omega) (growslice_fits (by omega) (by rw [hby]; omega))
    simpa using h
  have hge := grownCap_ge w n 0 32
  have hcm := grownCap_le_maxLen w n 0 32 (by unfold maxLen; omega)
  obtain ⟨G, hG⟩ : ∃ G, G = grownCap w n 0 32 := ⟨_, rfl⟩
  rw [← hG] at hap hge hcm
  have hcm2 : G ≤ 9223372036854775807 := by unfold maxLen at hcm; exact hcm
  have hfin : CRow w.heap.size (w.drew.alloc (.cells (#[] ++ Builtin.zeroCells z.cells n ++ Builtin.zeroCells z.cells (G - n)) 32)) (.slice (some ⟨w.heap.size, 0, none⟩) 0 G) [] := by
    refine ⟨rfl, .inr ⟨w.heap.size, G, _, rfl, Nat.le_refl _, Blk.new w.drew 32 _, Nat.zero_le _, hcm, ?_, by simp⟩⟩
    simp only [Array.size_append, size_zeroCells, hzs, List.size_toArray, List.length_nil, Nat.zero_add, ← Nat.add_mul]
    congr 1
    omega
  have hb : Below w.heap.size w (w.drew.alloc (.cells (#[] ++ Builtin.zeroCells z.cells n ++ Builtin.zeroCells z.cells (G - n)) 32)) := ba (bd (Below.refl _ _)) _
  generalize w.drew.alloc (.cells (#[] ++ Builtin.zeroCells z.cells n ++ Builtin.zeroCells z.cells (G - n)) 32) = w1 at *
  have d0 : decide ((n : Int) < 0) = false := by simp
  have d1 : decide (0 < (n : Int)) = true := by simp; omega
  have d2 : decide (0 < n) = true := by simp; omega
  generalize w.heap.size = NB at *
  clear hG hcm
  go_enter Try.func28, Try.ntmps28
  go_wp2_with (at_builtin; refine Lib.wpList_append_run _ rfl _ _ _ _ rfl _ _ rfl rfl _ _ (hap _) ?_)
  go_ret
  exact ⟨_, rfl, hfin, hb⟩
/-- calls put behind calls by hand -/
theorem wpList_append_crow {ops : Array Oper} {rest : List Oper} {o : Oper} {a : Act} {Q : Exit → Act → World → Prop} (w : World) (hgd : o.guard = none) (s x : Operand) (ho : o.op = .call { callee := .builtin .append, args := #[s, x], argTypes := #[30, 30] })
    (B B2 : Nat) (v1 v2 : Value) (cs1 cs2 : List Pm.Cl) (hs : a.eval s = v1) (hx : a.eval x = v2) (h1 : CRow B w v1 cs1) (h2 : CRow B2 w v2 cs2) (hne : 0 < cs2.length) (hB : B ≤ w.heap.size) (hlen : cs1.length + cs2.length ≤ 100000)
    (h : ∀ v' w', CRow B w' v' (cs1 ++ cs2) → w.grownBy w' v1.ownBlock → (∀ {B0 : Nat} {w0 : World}, Below B0 w0 w → B0 ≤ B → Below B0 w0 w') → wpList Try.prog ops Q rest (a.put o.dst v') w') : wpList Try.prog ops Q (o :: rest) a w := by
  obtain ⟨i0, z, hi, hz, hz0, hz1, hz2⟩ := info32
  obtain ⟨m, hm⟩ : ∃ m, cs2.length = m + 1 := ⟨cs2.length - 1, by omega⟩
  have h2' : w.ownsRow B2 32 2 v2 (m + 1) (cs2.flatMap clCells) := by rw [← hm]; exact h2
  obtain ⟨g, cap, rfl⟩ := owns_succ h2'
  refine wpList_append_own w hgd s x 30 ho B 32 i0 z 2 24 Try.underlying30 hi hz hz0 hz1 hz2 (by decide) v1 cs1.length (cs1.flatMap clCells) hs h1 ⟨g, 0, none⟩ (m + 1) cap (cs2.flatMap clCells) hx (by rw [crow_len]; omega) (fun j u hu => h2'.cells (g := g) rfl j u hu) (fun u hu => crow_one hu) (by unfold maxLen; omega) (by omega) hB ?_
  intro v' w' hown' hgrow _
  refine h v' w' ?_ hgrow (fun {B0 w0} hb hB0 => hb.grown hgrow (Nat.le_trans hB0 hB) (fun k hk => Nat.le_trans hB0 (World.ownsRow.lt h1 k hk).1))
  unfold CRow
  rw [List.length_append, hm, List.flatMap_append]
  exact hown'
namespace Pm
/-- how many there are in the first k lists -/
def cntL (css : List (List Cl)) : Nat := (css.map List.length).sum
theorem cntL_snoc (css : List (List Cl)) (k : Nat) (hk : k < css.length) : cntL (css.take (k + 1)) = cntL (css.take k) + (css[k]'hk).length := by
  unfold cntL
  rw [List.take_succ_eq_append_getElem hk, List.map_append, List.sum_append]
  simp
end Pm
/-- lists of calls, in a slice -/
def CRows (w : World) (g : Nat) (vs : List Value) (css : List (List Pm.Cl)) : Prop := vs.length = css.length ∧ ∀ k (h : k < vs.length) (h' : k < css.length), w.cell? ⟨g, k, none⟩ = some (vs[k]'h) ∧ CRow 0 w (vs[k]'h) (css[k]'h')
set_option maxRecDepth 100000 in
set_option maxHeartbeats 2000000 in
theorem concat_any (g c : Nat) (vs : List Value) (css : List (List Pm.Cl)) (w : World) (h : CRows w g vs css) (hne : ∀ cs ∈ css, 0 < cs.length) (h1 : 1 ≤ css.length) (hlen : Pm.cntL css ≤ 1000) (hn : css.length ≤ 100) :
    Calls Try.prog 12 #[.slice (some ⟨g, 0, none⟩) vs.length c] w fun e w' => ∃ v, e = .returned v ∧ CRow w.heap.size w' v css.flatten ∧ Below w.heap.size w w' := by
  obtain ⟨hl, hc⟩ := h
  obtain ⟨n, hn'⟩ : ∃ n, n = vs.length := ⟨_, rfl⟩
  rw [← hn']
  have HN := Lib.hid hn'
  have hn1 : n ≤ 100 := by omega
  have hn2 : 1 ≤ n := by omega
  have HL := Lib.hid hl
  clear hn' hl
  replace hc := Lib.hid hc
  go_enter Try.func12, Try.ntmps12
  go_wp2_with fail
  go_loop [3, 11] (fun s i => ∃ k : Nat, k ≤ n ∧ i = .int .i64 k ∧ s = .int .i64 (Pm.cntL (css.take k) : Nat)) (fun _ i => n - (intOf i).toNat)
  case atStart => exact ⟨0, by omega, rfl, rfl⟩
  case round =>
    obtain ⟨k, hk, rfl, rfl⟩ := hrel
    by_cases hlt : k < n
    · have hkv : k < vs.length := by have := HN.out; omega
      have hkc : k < css.length := by have := HL.out; omega
      obtain ⟨hcell, hrow⟩ := hc.out k hkv hkc
      obtain ⟨p, c2, hp⟩ := hrow.shape
      rw [hp] at hcell
      have HS := Pm.cntL_snoc css k hkc
      have hle : Pm.cntL (css.take (k + 1)) ≤ 1000 := by
        have : Pm.cntL css = Pm.cntL (css.take (k + 1)) + Pm.cntL (css.drop (k + 1)) := by
          unfold Pm.cntL
          conv => lhs; rw [← List.take_append_drop (k + 1) css]
          rw [List.map_append, List.sum_append]
        omega
      obtain ⟨x, hx⟩ : ∃ x, x = (css[k]'hkc).length := ⟨_, rfl⟩
      rw [← hx] at HS hcell
      obtain ⟨y, hy⟩ : ∃ y, y = Pm.cntL (css.take k) := ⟨_, rfl⟩
      rw [← hy] at HS ⊢
      have hxy : y + x ≤ 1000 := by omega
      replace HS := Lib.hid HS
      clear hx hy hp hrow hle
      go_wp2
      go_round
      case rel => exact ⟨k + 1, by omega, by go_num, by rw [HS.out]; go_num⟩
      case measure => simp [intOf]; omega
    · obtain rfl : k = n := by omega
      have hall : css.take k = css := List.take_of_length_le (by have := HN.out; have := HL.out; omega)
      rw [hall]
      clear hall
      obtain ⟨T, hT⟩ : ∃ T, T = Pm.cntL css := ⟨_, rfl⟩
      have hT1 : 1 ≤ T := by
        cases css with
        | nil => simp at h1
        | cons a l =>
          have := hne a (by simp)
          rw [hT]
          unfold Pm.cntL
          simp
          omega
      rw [← hT] at hlen ⊢
      have HG := Lib.hid (grow_any T w hT1 (by omega))
      have HT := Lib.hid hT
      clear hT
      go_wp2_with fail
      refine (HG.out).mono ?_
      rintro e w1 ⟨v0, rfl, hR0, hb0⟩
      clear HG
      go_wp2_with fail
      go_loopw [6, 27] (fun v i wr => ∃ q : Nat, q ≤ k ∧ i = .int .i64 q ∧ CRow w.heap.size wr v (css.take q).flatten ∧ Below w.heap.size w wr) (fun _ i _ => k - (intOf i).toNat)
      case atStart => exact ⟨0, by omega, rfl, by simpa using hR0, hb0⟩
      case round =>
        clear hR0 hb0
        obtain ⟨q, hq, rfl, hR, hb⟩ := hrel
        by_cases hlq : q < k
        · have hkv : q < vs.length := by have := HN.out; omega
          have hkc : q < css.length := by have := HL.out; omega
          obtain ⟨hcell, hrow⟩ := hc.out q hkv hkc
          have hrow2 := hrow.below (w' := wr) ⟨hb.os, hb.tape, hb.output, hb.size, hb.block⟩
          have hgl := World.block_lt_of_cell? w ⟨g, q, none⟩ hcell
          have hcell2 : wr.cell? ⟨g, q, none⟩ = some (vs[q]'hkv) := by rw [hb.cell (p := ⟨g, q, none⟩) hgl]; exact hcell
          have hpos := hne _ (List.getElem_mem hkc)
          obtain ⟨p, c2, hp⟩ := hrow.shape
          rw [hp] at hcell2 hrow2
          have hfl : (css.take (q + 1)).flatten = (css.take q).flatten ++ css[q]'hkc := by
            rw [List.take_succ_eq_append_getElem hkc, List.flatten_append]; simp
          have HF := Lib.hid hfl
          have hln : (css.take q).flatten.length + (css[q]'hkc).length ≤ 100000 := by
            rw [← List.length_append, ← hfl]
            have h2 : (css.take (q + 1)).flatten.length = Pm.cntL (css.take (q + 1)) := by rw [List.length_flatten]; rfl
            have : Pm.cntL css = Pm.cntL (css.take (q + 1)) + Pm.cntL (css.drop (q + 1)) := by
              unfold Pm.cntL
              conv => lhs; rw [← List.take_append_drop (q + 1) css]
              rw [List.map_append, List.sum_append]
            have := HT.out
            omega
          obtain ⟨x, hx⟩ : ∃ x, x = (css[q]'hkc).length := ⟨_, rfl⟩
          rw [← hx] at hcell2 hrow2
          have hbs := hb.size
          clear hx hp hrow hcell hfl hT1 hlen
          go_wp2_with (at_builtin; refine wpList_append_crow _ rfl _ _ rfl w.heap.size 0 _ _ _ _ rfl rfl hR hrow2 hpos hbs hln ?_)
          intro v' w2 hR2 _ hbA
          have hb2 := hbA hb (Nat.le_refl _)
          clear hbA hR hrow2 hcell2
          go_wp2
          go_roundw
          case rel => exact ⟨q + 1, by omega, by go_num, by rw [HF.out]; exact hR2, hb2⟩
          case measure => simp [intOf]; omega
        · obtain rfl : q = k := by omega
          have hall : css.take q = css := List.take_of_length_le (by have := HN.out; have := HL.out; omega)
          rw [hall] at hR
          clear hall
          go_wp2
          go_ret
          exact ⟨_, rfl, hR, hb⟩
end Go.Proofs.Ytkbjmgenceghlaa
