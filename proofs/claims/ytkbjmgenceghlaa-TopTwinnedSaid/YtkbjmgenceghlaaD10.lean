/- What 'Sure' answers: the sectors' bytes, one behind the other. -/
import Derived.Test.YtkbjmgenceghlaaD9
namespace Go.Proofs.Ytkbjmgenceghlaa
open Go.RowKit
theorem info5 : ∃ i z, Try.prog.info? 5 = some i ∧ i.zero = some z ∧ i.size = 1 ∧ i.bytes = 1 ∧ z.cells.size = 1 := info_size (by kernel_rfl)
set_option maxRecDepth 100000 in
set_option maxHeartbeats 1000000 in
theorem bwrite_any (B b : Nat) (bs : List Value) (w : World) (S o c : Nat) (s : List UInt8) (h : Lib.IsBuilder 71 5 B b bs w) (hr : w.rangeAt S o (secCells s)) (hS : S < B) (hs : s.length = 128) (hlen : bs.length ≤ 100000000) (hBw : B ≤ w.heap.size) :
    Calls Try.prog 37 #[.pointer (some ⟨b, 0, none⟩), .slice (some ⟨S, o, none⟩) 128 c] w fun e w' => e = .returned (.tuple #[.int .i64 128, .nilIface]) ∧ Lib.BuilderAt 71 5 B b (.pointer (some ⟨b, 0, none⟩)) (bs ++ secCells s) w' ∧ Below B w w' := by
  obtain ⟨i0, z, hi, hz, hz0, hz1, hz2⟩ := info5
  have HC := Lib.hid (Go.Proofs.Any.Builder_copyCheck { Try.lays156 with } Try.Builder_Extra_156.toX72 B b bs w h)
  clear h
  go_enter Try.func37, Try.ntmps37
  go_wp2_with fail
  refine (HC.out).mono ?_
  rintro e w1 ⟨rfl, h1, hb1⟩
  clear HC
  obtain ⟨hB, v, hbk, hown, hne⟩ := h1
  have hbk' : Blk w1 b 71 #[.pointer (some ⟨b, 0, none⟩), v] := hbk
  have cB := hbk'.cell
  have hr1 : w1.rangeAt S o (secCells s) := fun j u hu => by rw [hb1.cell (p := ⟨S, o + j, none⟩) hS]; exact hr j u hu
  have hb1s := hb1.size
  go_wp2_with (at_builtin; refine wpList_append_own _ rfl _ _ 69 rfl B 5 i0 z 1 1 Try.underlying69 hi hz hz0 hz1 hz2 (by decide) _ _ _ rfl hown ⟨S, o, none⟩ 128 c (secCells s) rfl ?c0 ?c1 ?c2 ?c3 ?c4 ?c5 ?_)
  case c0 => simp [secCells_len, hs]
  case c1 =>
    intro j u hu
    have e : (⟨S, o, none⟩ : Addr).add j = ⟨S, o + j, none⟩ := by unfold Addr.add; split <;> simp_all
    rw [e]
    exact hr1 j u hu
  case c2 => exact fun u hu => secCells_one hu
  case c3 => unfold maxLen; omega
  case c4 => omega
  case c5 => omega
  intro v' w2 hown' hgrow _
  have hlt := hbk'.lt
  have hb2 := hbk'.grown hgrow (fun e => hne e.symm)
  obtain ⟨g, cap, rfl⟩ := owns_succ hown'
  have cB2 := hb2.cell
  have fB2 := hb2.frozen
  clear cB
  go_wp2
  go_ret2
  refine ⟨rfl, ?_, ?_⟩
  · exact Lib.BuilderAt.put (T := 71) (e := 5) hB hb2 (bs' := bs ++ secCells s) (by simpa [secCells_len, hs] using hown') (by decide)
  · exact (hb1.grown hgrow (Nat.le_trans hBw hb1s) (fun k hk => (hown.lt k hk).1)).setCell (p := ⟨b, 1, none⟩) hB _
set_option maxRecDepth 100000 in
set_option maxHeartbeats 1000000 in
theorem sure_any (w : World) (base d : Nat) (D : Pm.Dk) (h : IsDisk w base d D) :
    Calls Try.prog 16 #[.pointer (some ⟨d, 0, none⟩)] w fun e w' => e = .returned (.string ⟨D.sure.flatten.toArray⟩) ∧ Below w.heap.size w w' := by
  have HN := Lib.hid (none_any w base d D h)
  have hbd := h.ok.bound
  have hsec := h.ok.secs
  obtain ⟨S, lv, hA⟩ := h.at_
  obtain ⟨cap, cur, e, hbS, hBS, h3, h4, h5, h6⟩ := owns_blk hA.sure (g := S) rfl
  injection e with _ _ e
  subst e
  have hrange := fun k hk => rows_range secCells (by omega) D.sure (fun x hx => by rw [secCells_len]; exact hsec x hx) hBS rfl h6 k hk
  have hSl := hBS.lt
  have hblk := hA.blk
  obtain ⟨m, hm⟩ : ∃ m, m = D.sure.length := ⟨_, rfl⟩
  rw [← hm] at hblk hbd
  have HM := Lib.hid hm
  clear h hA hBS h6 h5 h4 h3 hbS hm
  have cB := hblk.cell
  go_enter Try.func16, Try.ntmps16
  go_wp2_with fail
  refine (HN.out).mono ?_
  rintro e w1 ⟨rfl, rfl⟩
  clear HN
  have hbld := Lib.fresh_isBuilder 71 5 w
  have hb0 := ba (Below.refl w.heap.size w) (.cells #[.pointer none, .slice none 0 0] 71)
  have cB1 := (hblk.alloc (.cells #[.pointer none, .slice none 0 0] 71)).cell
  go_wp2_with fail
  clear cB cB1
  go_loopw [12] (fun i wr => ∃ k : Nat, k ≤ m ∧ i = .int .i64 k ∧ Lib.IsBuilder 71 5 w.heap.size w.heap.size ((D.sure.take k).flatMap secCells) wr ∧ Below w.heap.size w wr) (fun i _ => m - (intOf i).toNat)
  case atStart => exact ⟨0, by omega, rfl, by simpa using hbld, hb0⟩
  case round =>
    clear hbld hb0
    obtain ⟨k, hk, rfl, hbl, hb⟩ := hrel
    by_cases hlt : k < m
    · have hks : k < D.sure.length := by have := HM.out; omega
      have hr0 := hrange k hks
      have hr1 : wr.rangeAt S (k * 128) (secCells (D.sure[k]'hks)) := fun j u hu => by rw [hb.cell (p := ⟨S, k * 128 + j, none⟩) hSl]; exact hr0 j u hu
      have hs := hsec _ (List.getElem_mem hks)
      have hsn : (D.sure.take (k + 1)).flatMap secCells = (D.sure.take k).flatMap secCells ++ secCells (D.sure[k]'hks) := by
        rw [List.take_succ_eq_append_getElem hks, List.flatMap_append]; simp
      have HSN := Lib.hid hsn
      clear hsn hr0
      have hll : ((D.sure.take k).flatMap secCells).length ≤ 100000000 := by
        rw [rows_len (size := 128) secCells _ (fun x hx => by rw [secCells_len]; exact hsec x (List.mem_of_mem_take hx)), List.length_take]
        omega
      have HW := Lib.hid (bwrite_any w.heap.size w.heap.size _ wr S (k * 128) 128 _ hbl hr1 hSl hs hll hb.size)
      have cB := (hblk.after hb).cell
      clear hbl hr1 hs hll
      go_wp2_with fail
      refine (HW.out).mono ?_
      rintro e w2 ⟨rfl, hb2, hbb⟩
      go_wp2_with fail
      go_roundw
      case rel => exact ⟨k + 1, by omega, by go_num, by rw [HSN.out]; exact .inr hb2, hb.trans hbb⟩
      case measure => simp [intOf]; omega
    · have hall : D.sure.take k = D.sure := List.take_of_length_le (by have := HM.out; omega)
      rw [hall] at hbl
      have hfl : D.sure.flatMap secCells = Lib.byteCells D.sure.flatten := by
        unfold Lib.byteCells secCells
        rw [List.map_flatten, List.flatMap_def]
      rw [hfl] at hbl
      have HS := Lib.hid (Try.Builder_String_any_f w.heap.size w.heap.size D.sure.flatten wr (Lib.IsBuilderF.of hbl) hb.size)
      clear hall hbl hfl
      go_wp2_with fail
      refine (HS.out).mono ?_
      rintro e w2 ⟨rfl, _, hbb⟩
      go_wp2_with fail
      go_ret
      exact ⟨rfl, hb.trans hbb⟩
end Go.Proofs.Ytkbjmgenceghlaa
