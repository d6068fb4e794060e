/- The cell: its row: what the code answers, as lemmas for every input that their premises allow; a part of the proof of TopRowed. -/
import Derived.Test.YtaddjpngjhkkmaaW16
import Derived.Test.YtaddjpngjhkkmaaW12
import Derived.Deep.DeepCutAuto
import Derived.Test.YtaddjpngjhkkmaaRg
namespace Go.Proofs.Ytaddjpngjhkkmaa
open Go.RowKit
attribute [local go_sem ↓] Go.wp_at_zero Go.wp_at_succ
/-- a row that may be -/
def SomeRow (mk : Bool) (tx : Nat) (w : World) (e : Ending) (w' : World) : Prop := ∃ (k v : List UInt8) (rp rs pad : Nat), k.length ≤ 48 ∧ v.length ≤ 96 ∧ rp ≤ 1024 ∧ rs < 65536 ∧ pad ≤ 96 ∧ Pm.may k v rp rs pad = true ∧ e = .returned (.agg #[.string ⟨k.toArray⟩, .bool mk, .int .u64 tx, .int .u32 rp, .int .u16 rs, .string ⟨v.toArray⟩, .int .i64 pad]) ∧ Below w.heap.size w w'
theorem chB {W w1 : World} {b : Nat} {t : TypeId} {cs : Array Value} (h : Blk W b t cs) (hb : Below W.heap.size W w1) : Blk w1 b t cs ∧ (∀ i, w1.cell? ⟨b, i, none⟩ = cs[i]?) ∧ (∀ i, w1.frozen? ⟨b, i, none⟩ = false) ∧ b < w1.heap.size :=
  have k := h.after hb
  ⟨k, k.cell, k.frozen, k.lt⟩
theorem run_byte_at (va : Nat) (W : World) (b : Nat) (h : W.cell? ⟨b, 0, none⟩ = some (.int .u8 (va : Nat))) : (convert 63 9 (.slice (some ⟨b, 0, none⟩) 1 1)).run Try.prog W = .ok (.string ⟨[UInt8.ofNat va].toArray⟩) W := by
  have h := run_convert_bytes_arg (P := Try.prog) W 63 5 Try.underlying63 Try.underlying5 b 0 1 1 [(va : Int)] rfl (fun i hi => by
    obtain rfl : i = 0 := by omega
    simpa using h) 9 Try.underlying9
  rw [h]
  simp [strOfNums]
theorem rep_any (c : Nat) (x : UInt8) (w : World) (hc : c ≤ 1000000) : Calls Try.prog 10 #[.string ⟨[x].toArray⟩, .int .i64 c] w fun e w' => e = .returned (.string ⟨(List.replicate c x).toArray⟩) ∧ Below w.heap.size w w' := by
  have h := Try.strings_Repeat ⟨[x].toArray⟩ c w (by omega) (by show 1 * c ≤ _; omega)
  have e : Lib.repeatL (ByteArray.mk [x].toArray).data.toList c = List.replicate c x := by
    have := Lib.repeatL_replicate x 1 c
    simpa using this
  rw [e] at h
  exact h
/-- what region 1 of Cell.row leaves -/
def Row1 (ky lo va pd tx pg sl : Nat) (mk : Bool) (w : World) (s3 : Value) (wx : World) : Prop :=
  ∃ (K : Nat) (k v : List UInt8), s3 = .pointer (some ⟨K, 0, none⟩) ∧ w.heap.size + 1 < K ∧ 1 ≤ k.length ∧ k.length ≤ 48 ∧ v.length ≤ 96 ∧
    Blk wx K 31 #[.string ⟨k.toArray⟩, .bool mk, .int .u64 tx, .int .u32 0, .int .u16 0, .string ⟨v.toArray⟩, .int .i64 0] ∧ Blk wx w.heap.size 24 #[.int .u8 ky, .int .u8 lo, .int .u8 va, .int .u8 pd, .bool mk, .int .u16 tx, .int .u16 pg, .int .u16 sl] ∧ Blk wx (w.heap.size + 1) 31 #[.string ⟨#[]⟩, .bool false, .int .u64 0, .int .u32 0, .int .u16 0, .string ⟨#[]⟩, .int .i64 0] ∧ Below w.heap.size w wx
set_option maxRecDepth 100000 in
set_option maxHeartbeats 4000000 in
theorem cell_row (ky lo va pd tx pg sl : Nat) (mk : Bool) (w : World) (hky : ky < 256) (hlo : lo < 256) (hva : va < 256) (hpd : pd < 256) (htx : tx < 65536) (hpg : pg < 65536) (hsl : sl < 65536) :
    Calls Try.prog 4 #[.agg #[.int .u8 ky, .int .u8 lo, .int .u8 va, .int .u8 pd, .bool mk, .int .u16 tx, .int .u16 pg, .int .u16 sl]] w (SomeRow mk tx w) := by
  have hw1 : IntKind.u64.wrap (tx : Int) = tx := IntWalk.u64_in _ (by omega)
  go_enter Try.func4, Try.ntmps4
  go_upto_region 1 with fail
  go_cut [3] (Row1 ky lo va pd tx pg sl mk w)
  case first =>
    obtain ⟨W, hW⟩ : ∃ W, W = (w.alloc (.cells #[.int .u8 ky, .int .u8 lo, .int .u8 va, .int .u8 pd, .bool mk, .int .u16 tx, .int .u16 pg, .int .u16 sl] 24)).alloc (.cells #[.string ⟨#[]⟩, .bool false, .int .u64 0, .int .u32 0, .int .u16 0, .string ⟨#[]⟩, .int .i64 0] 31) := ⟨_, rfl⟩
    have hC : Blk W w.heap.size 24 #[.int .u8 ky, .int .u8 lo, .int .u8 va, .int .u8 pd, .bool mk, .int .u16 tx, .int .u16 pg, .int .u16 sl] := by rw [hW]; exact (Blk.new w 24 _).alloc _
    have hR : Blk W (w.heap.size + 1) 31 #[.string ⟨#[]⟩, .bool false, .int .u64 0, .int .u32 0, .int .u16 0, .string ⟨#[]⟩, .int .i64 0] := by
      have h := Blk.new (w.alloc (.cells #[.int .u8 ky, .int .u8 lo, .int .u8 va, .int .u8 pd, .bool mk, .int .u16 tx, .int .u16 pg, .int .u16 sl] 24)) 31 #[.string ⟨#[]⟩, .bool false, .int .u64 0, .int .u32 0, .int .u16 0, .string ⟨#[]⟩, .int .i64 0]
      rw [hW]; simpa using h
    have hb : Below w.heap.size w W := by rw [hW]; exact ba (ba (Below.refl _ _) _) _
    rw [← hW]
    clear hW
    have hv64 : IntKind.i64.wrap (va : Int) = va := IntWalk.i64_in _ (by omega)
    obtain ⟨cn, hcn, hc96⟩ : ∃ cn : Nat, (va : Int).tmod 97 = (cn : Int) ∧ cn ≤ 96 := ⟨va % 97, by rw [Int.tmod_eq_emod_of_nonneg (by omega)]; simp, by omega⟩
    have hcv := run_byte_at va
    have lR := hR.lt
    refine wp_region_held_drew (S := BlkL [(w.heap.size, 24, #[.int .u8 ky, .int .u8 lo, .int .u8 va, .int .u8 pd, .bool mk, .int .u16 tx, .int .u16 pg, .int .u16 sl]), (w.heap.size + 1, 31, #[.string ⟨#[]⟩, .bool false, .int .u64 0, .int .u32 0, .int .u16 0, .string ⟨#[]⟩, .int .i64 0])]) (by kernel_rfl) ⟨hC.drew, hR.drew, trivial⟩ (fun hH => ?_)
    refine wpAnyH_take (i := 0) (v := ?_) rfl (by kernel_rfl) (by kernel_rfl) (by kernel_rfl) (fun _ _ _ h => h) (Or.inl ⟨by rfl, ?_⟩) hH ?_
    rotate_left
    · (intro w_ hSw; obtain ⟨q0, q1, _⟩ := hSw; have c0 := q0.cell; have c1 := q1.cell; go_simp; try with_reducible rfl)
    simp only [Act.put, List.setIfInBounds_toArray, List.set_cons_zero, List.set_cons_succ]
    refine wpAnyH_take (i := 2) (v := ?_) rfl (by kernel_rfl) (by kernel_rfl) (by kernel_rfl) (fun _ _ _ h => h) (Or.inl ⟨by rfl, ?_⟩) hH ?_
    rotate_left
    · (intro w_ hSw; go_simp; try with_reducible rfl)
    simp only [Act.put, List.setIfInBounds_toArray, List.set_cons_zero, List.set_cons_succ]
    refine wpAnyH_take (i := 3) (v := ?_) rfl (by kernel_rfl) (by kernel_rfl) (by kernel_rfl) (fun _ _ _ h => h) (Or.inl ⟨by rfl, ?_⟩) hH ?_
    rotate_left
    · (intro w_ hSw; obtain ⟨q0, q1, _⟩ := hSw; have c0 := q0.cell; have c1 := q1.cell; go_simp; try with_reducible rfl)
    simp only [Act.put, List.setIfInBounds_toArray, List.set_cons_zero, List.set_cons_succ]
    refine wpAnyH_take (i := 4) (v := ?_) rfl (by kernel_rfl) (by kernel_rfl) (by kernel_rfl) (fun _ _ _ h => h) (Or.inl ⟨by rfl, ?_⟩) hH ?_
    rotate_left
    · (intro w_ hSw; go_simp; try with_reducible rfl)
    simp only [Act.put, List.setIfInBounds_toArray, List.set_cons_zero, List.set_cons_succ]
    refine wpAnyH_take (i := 5) (v := ?_) rfl (by kernel_rfl) (by kernel_rfl) (by kernel_rfl) (fun _ _ _ h => h) (Or.inl ⟨by rfl, ?_⟩) hH ?_
    rotate_left
    · (intro w_ hSw; obtain ⟨q0, q1, _⟩ := hSw; have c0 := q0.cell; have c1 := q1.cell; go_simp; try with_reducible rfl)
    simp only [Act.put, List.setIfInBounds_toArray, List.set_cons_zero, List.set_cons_succ]
    refine wpAnyH_take (i := 6) (v := ?_) rfl (by kernel_rfl) (by kernel_rfl) (by kernel_rfl) (fun _ _ _ h => h) (Or.inl ⟨by rfl, ?_⟩) hH ?_
    rotate_left
    · (intro w_ hSw; go_simp; try with_reducible rfl)
    simp only [Act.put, List.setIfInBounds_toArray, List.set_cons_zero, List.set_cons_succ]
    refine wpAnyH_take (i := 7) (v := ?_) rfl (by kernel_rfl) (by kernel_rfl) (by kernel_rfl) (fun _ _ _ h => h) (Or.inl ⟨by rfl, ?_⟩) hH ?_
    rotate_left
    · (intro w_ hSw; go_simp; try with_reducible rfl)
    simp only [Act.put, List.setIfInBounds_toArray, List.set_cons_zero, List.set_cons_succ]
    refine wpAnyH_take (i := 8) (v := ?_) rfl (by kernel_rfl) (by kernel_rfl) (by kernel_rfl) (fun _ _ _ h => h) (Or.inl ⟨by rfl, ?_⟩) hH ?_
    rotate_left
    · (intro w_ hSw; obtain ⟨q0, q1, _⟩ := hSw; have c0 := q0.cell; have c1 := q1.cell; go_simp; try with_reducible rfl)
    simp only [Act.put, List.setIfInBounds_toArray, List.set_cons_zero, List.set_cons_succ]
    refine wpAnyH_take (i := 11) (v := ?_) rfl (by kernel_rfl) (by kernel_rfl) (by kernel_rfl) (fun _ _ _ h => h) (Or.inl ⟨by rfl, ?_⟩) hH ?_
    rotate_left
    · (intro w_ hSw; go_simp; try with_reducible rfl)
    simp only [Act.put, List.setIfInBounds_toArray, List.set_cons_zero, List.set_cons_succ]
    refine wpAnyH_take (i := 12) (v := ?_) rfl (by kernel_rfl) (by kernel_rfl) (by kernel_rfl) (fun _ _ _ h => h) (Or.inl ⟨by rfl, ?_⟩) hH ?_
    rotate_left
    · (intro w_ hSw; obtain ⟨q0, q1, _⟩ := hSw; have c0 := q0.cell; have c1 := q1.cell; go_simp; try with_reducible rfl)
    simp only [Act.put, List.setIfInBounds_toArray, List.set_cons_zero, List.set_cons_succ]
    refine wpAnyH_take (i := 13) (v := ?_) rfl (by kernel_rfl) (by kernel_rfl) (by kernel_rfl) (fun _ _ _ h => h) (Or.inl ⟨by rfl, ?_⟩) hH ?_
    rotate_left
    · (intro w_ hSw; go_simp; try with_reducible rfl)
    simp only [Act.put, List.setIfInBounds_toArray, List.set_cons_zero, List.set_cons_succ]
    refine wpAnyH_take (i := 14) (v := ?_) rfl (by kernel_rfl) (by kernel_rfl) (by kernel_rfl) (fun _ _ _ h => h) (Or.inl ⟨by rfl, ?_⟩) hH ?_
    rotate_left
    · (intro w_ hSw; go_simp; try with_reducible rfl)
    simp only [Act.put, List.setIfInBounds_toArray, List.set_cons_zero, List.set_cons_succ]
    refine wpAnyH_ready (rs := [1, 9, 17]) (by kernel_rfl) (by simp) ?_
    refine AllReadyH.cons rfl (fun K hK => ?_) ?_
    · go_simp
      refine (cell_key ky lo va pd tx pg sl mk _ hky hlo).mono ?_
      rintro e w1 ⟨k, hk1, hk2, rfl, hb1⟩
      go_wp2_with fail
      have hz1 := hb1.size
      try simp at hz1
      have hx1 := bt (bd (hb)) hb1
      refine hK.out _ _ (hH.after hb1) (fun hH => ?_)
      clear hK K
      try simp only [Act.put, List.setIfInBounds_toArray, List.set_cons_zero, List.set_cons_succ]
      refine wpAnyH_ready (rs := [9, 17]) (by kernel_rfl) (by simp) ?_
      refine AllReadyH.cons rfl (fun K hK => ?_) ?_
      · have hHo := hH
        go_simp
        refine hK.out _ _ (hHo.alloc _) (fun hH => ?_)
        clear hK K
        have hH' : BlkL [(w1.heap.size, 5, #[.int .u8 va]), (w.heap.size, 24, #[.int .u8 ky, .int .u8 lo, .int .u8 va, .int .u8 pd, .bool mk, .int .u16 tx, .int .u16 pg, .int .u16 sl]), (w.heap.size + 1, 31, #[.string ⟨#[]⟩, .bool false, .int .u64 0, .int .u32 0, .int .u16 0, .string ⟨#[]⟩, .int .i64 0])] (World.alloc _ (.cells #[.int .u8 va] 5)) := ⟨by have k := Blk.new w1 5 #[.int .u8 va]; (try simp at k); exact k, hHo.alloc _⟩
        refine wpAnyH_mono (S1 := BlkL [(w1.heap.size, 5, #[.int .u8 va]), (w.heap.size, 24, #[.int .u8 ky, .int .u8 lo, .int .u8 va, .int .u8 pd, .bool mk, .int .u16 tx, .int .u16 pg, .int .u16 sl]), (w.heap.size + 1, 31, #[.string ⟨#[]⟩, .bool false, .int .u64 0, .int .u32 0, .int .u16 0, .string ⟨#[]⟩, .int .i64 0])]) (fun _ h => h.2) _ _ _ _ ?_
        replace hH := hH'
        clear hH'
        try simp only [Act.put, List.setIfInBounds_toArray, List.set_cons_zero, List.set_cons_succ]
        refine wpAnyH_take (i := 10) (v := ?_) rfl (by kernel_rfl) (by kernel_rfl) (by kernel_rfl) (fun _ _ _ h => h) (Or.inl ⟨by rfl, ?_⟩) hH ?_
        rotate_left
        · (intro w_ hSw; obtain ⟨q0, q1, q2, _⟩ := hSw; have c0 := q0.cell; have c1 := q1.cell; have c2 := q2.cell; go_simp; try with_reducible rfl)
        simp only [Act.put, List.setIfInBounds_toArray, List.set_cons_zero, List.set_cons_succ]
        refine wpAnyH_ready (rs := [15, 17]) (by kernel_rfl) (by simp) ?_
        refine AllReadyH.cons rfl (fun K hK => ?_) ?_
        · go_simp
          refine (rep_any cn (UInt8.ofNat va) _ (by omega)).mono ?_
          rintro e w2 ⟨rfl, hb2⟩
          go_wp2_with fail
          have hz2 := hb2.size
          try simp at hz2
          have hx2 := bt (ba (hx1) _) hb2
          refine hK.out _ _ (hH.after hb2) (fun hH => ?_)
          clear hK K
          try simp only [Act.put, List.setIfInBounds_toArray, List.set_cons_zero, List.set_cons_succ]
          refine wpAnyH_take (i := 16) (v := ?_) rfl (by kernel_rfl) (by kernel_rfl) (by kernel_rfl) (fun _ _ _ h => h) (Or.inl ⟨by rfl, ?_⟩) hH ?_
          rotate_left
          · (intro w_ hSw; go_simp; try with_reducible rfl)
          simp only [Act.put, List.setIfInBounds_toArray, List.set_cons_zero, List.set_cons_succ]
          refine wpAnyH_ready (rs := [17]) (by kernel_rfl) (by simp) ?_
          refine AllReadyH.cons rfl (fun K hK => ?_) ?_
          · have hHa := hH
            go_simp
            refine hK.out _ _ (hHa.alloc _) (fun hH => ?_)
            clear hK K
            have hA0 : Blk (w2.alloc (.cells #[.string ⟨#[]⟩, .bool false, .int .u64 0, .int .u32 0, .int .u16 0, .string ⟨#[]⟩, .int .i64 0] 31)) (w2.heap.size) 31 #[.string ⟨#[]⟩, .bool false, .int .u64 0, .int .u32 0, .int .u16 0, .string ⟨#[]⟩, .int .i64 0] := by have k := Blk.new w2 31 #[.string ⟨#[]⟩, .bool false, .int .u64 0, .int .u32 0, .int .u16 0, .string ⟨#[]⟩, .int .i64 0]; (try simp at k); exact k
            try simp only [Act.put, List.setIfInBounds_toArray, List.set_cons_zero, List.set_cons_succ]
            refine wpAnyH_ready (rs := [18]) (by kernel_rfl) (by simp) ?_
            refine AllReadyH.cons rfl (fun K hK => ?_) ?_
            · have cA := hA0.cell
              have fA := hA0.frozen
              have lA := hA0.lt
              go_simp
              refine hK.out _ _ (hHa.alloc _) (fun hH => ?_)
              clear hK K
              try simp only [Act.put, List.setIfInBounds_toArray, List.set_cons_zero, List.set_cons_succ]
              refine wpAnyH_done (by kernel_rfl) ?_ _
              go_wp2_with fail
              go_meet
              obtain ⟨_, hcc, hrr, _⟩ := hH
              exact ⟨w2.heap.size, k, List.replicate cn (UInt8.ofNat va), rfl, by omega, hk1, hk2, by simp; omega, Blk.new w2 31 _, hcc, hrr, ba hx2 _⟩
            exact AllReadyH.nil
          exact AllReadyH.nil
        refine AllReadyH.cons rfl (fun K hK => ?_) ?_
        · have hHa := hH
          go_simp
          refine hK.out _ _ (hHa.alloc _) (fun hH => ?_)
          clear hK K
          have hA0 : Blk ((w1.alloc (.cells #[.int .u8 va] 5)).alloc (.cells #[.string ⟨#[]⟩, .bool false, .int .u64 0, .int .u32 0, .int .u16 0, .string ⟨#[]⟩, .int .i64 0] 31)) (w1.heap.size + 1) 31 #[.string ⟨#[]⟩, .bool false, .int .u64 0, .int .u32 0, .int .u16 0, .string ⟨#[]⟩, .int .i64 0] := by have k := Blk.new (w1.alloc (.cells #[.int .u8 va] 5)) 31 #[.string ⟨#[]⟩, .bool false, .int .u64 0, .int .u32 0, .int .u16 0, .string ⟨#[]⟩, .int .i64 0]; (try simp at k); exact k
          try simp only [Act.put, List.setIfInBounds_toArray, List.set_cons_zero, List.set_cons_succ]
          refine wpAnyH_ready (rs := [15]) (by kernel_rfl) (by simp) ?_
          refine AllReadyH.cons rfl (fun K hK => ?_) ?_
          · go_simp
            refine (rep_any cn (UInt8.ofNat va) _ (by omega)).mono ?_
            rintro e w2 ⟨rfl, hb2⟩
            go_wp2_with fail
            have hz2 := hb2.size
            try simp at hz2
            have hx2 := bt (ba (ba (hx1) _) _) hb2
            have hA2 := (hA0).after hb2
            refine hK.out _ _ (hH.after hb2) (fun hH => ?_)
            clear hK K
            try simp only [Act.put, List.setIfInBounds_toArray, List.set_cons_zero, List.set_cons_succ]
            refine wpAnyH_take (i := 16) (v := ?_) rfl (by kernel_rfl) (by kernel_rfl) (by kernel_rfl) (fun _ _ _ h => h) (Or.inl ⟨by rfl, ?_⟩) hH ?_
            rotate_left
            · (intro w_ hSw; go_simp; try with_reducible rfl)
            simp only [Act.put, List.setIfInBounds_toArray, List.set_cons_zero, List.set_cons_succ]
            refine wpAnyH_ready (rs := [18]) (by kernel_rfl) (by simp) ?_
            refine AllReadyH.cons rfl (fun K hK => ?_) ?_
            · have cA := hA2.cell
              have fA := hA2.frozen
              have lA := hA2.lt
              go_simp
              refine hK.out _ _ (BlkL.far (BlkL.far (BlkL.far (BlkL.far (BlkL.far (BlkL.far (BlkL.far (hH) ⟨w1.heap.size + 1, 0, none⟩ (by simp; omega) (.string ⟨k.toArray⟩)) ⟨w1.heap.size + 1, 1, none⟩ (by simp; omega) (.bool mk)) ⟨w1.heap.size + 1, 2, none⟩ (by simp; omega) (.int .u64 tx)) ⟨w1.heap.size + 1, 3, none⟩ (by simp; omega) (.int .u32 0)) ⟨w1.heap.size + 1, 4, none⟩ (by simp; omega) (.int .u16 0)) ⟨w1.heap.size + 1, 5, none⟩ (by simp; omega) (.string ⟨(List.replicate cn (UInt8.ofNat va)).toArray⟩)) ⟨w1.heap.size + 1, 6, none⟩ (by simp; omega) (.int .i64 0)) (fun hH => ?_)
              clear hK K
              try simp only [Act.put, List.setIfInBounds_toArray, List.set_cons_zero, List.set_cons_succ]
              refine wpAnyH_done (by kernel_rfl) ?_ _
              go_wp2_with fail
              go_meet
              obtain ⟨_, hcc, hrr, _⟩ := hH
              exact ⟨w1.heap.size + 1, k, List.replicate cn (UInt8.ofNat va), rfl, by omega, hk1, hk2, by simp; omega, hA2.seven_at _ _ _ _ _ _ _, hcc, hrr, bs (bs (bs (bs (bs (bs (bs (hx2) (p := ⟨w1.heap.size + 1, 0, none⟩) (by show _ ≤ w1.heap.size + 1; omega) (.string ⟨k.toArray⟩)) (p := ⟨w1.heap.size + 1, 1, none⟩) (by show _ ≤ w1.heap.size + 1; omega) (.bool mk)) (p := ⟨w1.heap.size + 1, 2, none⟩) (by show _ ≤ w1.heap.size + 1; omega) (.int .u64 tx)) (p := ⟨w1.heap.size + 1, 3, none⟩) (by show _ ≤ w1.heap.size + 1; omega) (.int .u32 0)) (p := ⟨w1.heap.size + 1, 4, none⟩) (by show _ ≤ w1.heap.size + 1; omega) (.int .u16 0)) (p := ⟨w1.heap.size + 1, 5, none⟩) (by show _ ≤ w1.heap.size + 1; omega) (.string ⟨(List.replicate cn (UInt8.ofNat va)).toArray⟩)) (p := ⟨w1.heap.size + 1, 6, none⟩) (by show _ ≤ w1.heap.size + 1; omega) (.int .i64 0)⟩
            exact AllReadyH.nil
          exact AllReadyH.nil
        exact AllReadyH.nil
      refine AllReadyH.cons rfl (fun K hK => ?_) ?_
      · have hHa := hH
        go_simp
        refine hK.out _ _ (hHa.alloc _) (fun hH => ?_)
        clear hK K
        have hA0 : Blk (w1.alloc (.cells #[.string ⟨#[]⟩, .bool false, .int .u64 0, .int .u32 0, .int .u16 0, .string ⟨#[]⟩, .int .i64 0] 31)) (w1.heap.size) 31 #[.string ⟨#[]⟩, .bool false, .int .u64 0, .int .u32 0, .int .u16 0, .string ⟨#[]⟩, .int .i64 0] := by have k := Blk.new w1 31 #[.string ⟨#[]⟩, .bool false, .int .u64 0, .int .u32 0, .int .u16 0, .string ⟨#[]⟩, .int .i64 0]; (try simp at k); exact k
        try simp only [Act.put, List.setIfInBounds_toArray, List.set_cons_zero, List.set_cons_succ]
        refine wpAnyH_ready (rs := [9]) (by kernel_rfl) (by simp) ?_
        refine AllReadyH.cons rfl (fun K hK => ?_) ?_
        · have hHo := hH
          go_simp
          refine hK.out _ _ (hHo.alloc _) (fun hH => ?_)
          clear hK K
          have hH' : BlkL [(w1.heap.size + 1, 5, #[.int .u8 va]), (w.heap.size, 24, #[.int .u8 ky, .int .u8 lo, .int .u8 va, .int .u8 pd, .bool mk, .int .u16 tx, .int .u16 pg, .int .u16 sl]), (w.heap.size + 1, 31, #[.string ⟨#[]⟩, .bool false, .int .u64 0, .int .u32 0, .int .u16 0, .string ⟨#[]⟩, .int .i64 0])] (World.alloc _ (.cells #[.int .u8 va] 5)) := ⟨by have k := Blk.new (w1.alloc (.cells #[.string ⟨#[]⟩, .bool false, .int .u64 0, .int .u32 0, .int .u16 0, .string ⟨#[]⟩, .int .i64 0] 31)) 5 #[.int .u8 va]; (try simp at k); exact k, hHo.alloc _⟩
          refine wpAnyH_mono (S1 := BlkL [(w1.heap.size + 1, 5, #[.int .u8 va]), (w.heap.size, 24, #[.int .u8 ky, .int .u8 lo, .int .u8 va, .int .u8 pd, .bool mk, .int .u16 tx, .int .u16 pg, .int .u16 sl]), (w.heap.size + 1, 31, #[.string ⟨#[]⟩, .bool false, .int .u64 0, .int .u32 0, .int .u16 0, .string ⟨#[]⟩, .int .i64 0])]) (fun _ h => h.2) _ _ _ _ ?_
          replace hH := hH'
          clear hH'
          try simp only [Act.put, List.setIfInBounds_toArray, List.set_cons_zero, List.set_cons_succ]
          refine wpAnyH_take (i := 10) (v := ?_) rfl (by kernel_rfl) (by kernel_rfl) (by kernel_rfl) (fun _ _ _ h => h) (Or.inl ⟨by rfl, ?_⟩) hH ?_
          rotate_left
          · (intro w_ hSw; obtain ⟨q0, q1, q2, _⟩ := hSw; have c0 := q0.cell; have c1 := q1.cell; have c2 := q2.cell; go_simp; try with_reducible rfl)
          simp only [Act.put, List.setIfInBounds_toArray, List.set_cons_zero, List.set_cons_succ]
          refine wpAnyH_ready (rs := [15]) (by kernel_rfl) (by simp) ?_
          refine AllReadyH.cons rfl (fun K hK => ?_) ?_
          · go_simp
            refine (rep_any cn (UInt8.ofNat va) _ (by omega)).mono ?_
            rintro e w2 ⟨rfl, hb2⟩
            go_wp2_with fail
            have hz2 := hb2.size
            try simp at hz2
            have hx2 := bt (ba (ba (hx1) _) _) hb2
            have hA2 := (hA0.alloc _).after hb2
            refine hK.out _ _ (hH.after hb2) (fun hH => ?_)
            clear hK K
            try simp only [Act.put, List.setIfInBounds_toArray, List.set_cons_zero, List.set_cons_succ]
            refine wpAnyH_take (i := 16) (v := ?_) rfl (by kernel_rfl) (by kernel_rfl) (by kernel_rfl) (fun _ _ _ h => h) (Or.inl ⟨by rfl, ?_⟩) hH ?_
            rotate_left
            · (intro w_ hSw; go_simp; try with_reducible rfl)
            simp only [Act.put, List.setIfInBounds_toArray, List.set_cons_zero, List.set_cons_succ]
            refine wpAnyH_ready (rs := [18]) (by kernel_rfl) (by simp) ?_
            refine AllReadyH.cons rfl (fun K hK => ?_) ?_
            · have cA := hA2.cell
              have fA := hA2.frozen
              have lA := hA2.lt
              go_simp
              refine hK.out _ _ (BlkL.far (BlkL.far (BlkL.far (BlkL.far (BlkL.far (BlkL.far (BlkL.far (hH) ⟨w1.heap.size, 0, none⟩ (by simp; omega) (.string ⟨k.toArray⟩)) ⟨w1.heap.size, 1, none⟩ (by simp; omega) (.bool mk)) ⟨w1.heap.size, 2, none⟩ (by simp; omega) (.int .u64 tx)) ⟨w1.heap.size, 3, none⟩ (by simp; omega) (.int .u32 0)) ⟨w1.heap.size, 4, none⟩ (by simp; omega) (.int .u16 0)) ⟨w1.heap.size, 5, none⟩ (by simp; omega) (.string ⟨(List.replicate cn (UInt8.ofNat va)).toArray⟩)) ⟨w1.heap.size, 6, none⟩ (by simp; omega) (.int .i64 0)) (fun hH => ?_)
              clear hK K
              try simp only [Act.put, List.setIfInBounds_toArray, List.set_cons_zero, List.set_cons_succ]
              refine wpAnyH_done (by kernel_rfl) ?_ _
              go_wp2_with fail
              go_meet
              obtain ⟨_, hcc, hrr, _⟩ := hH
              exact ⟨w1.heap.size, k, List.replicate cn (UInt8.ofNat va), rfl, by omega, hk1, hk2, by simp; omega, hA2.seven_at _ _ _ _ _ _ _, hcc, hrr, bs (bs (bs (bs (bs (bs (bs (hx2) (p := ⟨w1.heap.size, 0, none⟩) (by show _ ≤ w1.heap.size; omega) (.string ⟨k.toArray⟩)) (p := ⟨w1.heap.size, 1, none⟩) (by show _ ≤ w1.heap.size; omega) (.bool mk)) (p := ⟨w1.heap.size, 2, none⟩) (by show _ ≤ w1.heap.size; omega) (.int .u64 tx)) (p := ⟨w1.heap.size, 3, none⟩) (by show _ ≤ w1.heap.size; omega) (.int .u32 0)) (p := ⟨w1.heap.size, 4, none⟩) (by show _ ≤ w1.heap.size; omega) (.int .u16 0)) (p := ⟨w1.heap.size, 5, none⟩) (by show _ ≤ w1.heap.size; omega) (.string ⟨(List.replicate cn (UInt8.ofNat va)).toArray⟩)) (p := ⟨w1.heap.size, 6, none⟩) (by show _ ≤ w1.heap.size; omega) (.int .i64 0)⟩
            exact AllReadyH.nil
          exact AllReadyH.nil
        exact AllReadyH.nil
      exact AllReadyH.nil
    refine AllReadyH.cons rfl (fun K hK => ?_) ?_
    · have hHo := hH
      go_simp
      refine hK.out _ _ (hHo.alloc _) (fun hH => ?_)
      clear hK K
      have hH' : BlkL [(W.heap.size, 5, #[.int .u8 va]), (w.heap.size, 24, #[.int .u8 ky, .int .u8 lo, .int .u8 va, .int .u8 pd, .bool mk, .int .u16 tx, .int .u16 pg, .int .u16 sl]), (w.heap.size + 1, 31, #[.string ⟨#[]⟩, .bool false, .int .u64 0, .int .u32 0, .int .u16 0, .string ⟨#[]⟩, .int .i64 0])] (World.alloc _ (.cells #[.int .u8 va] 5)) := ⟨by have k := Blk.new W.drew 5 #[.int .u8 va]; (try simp at k); exact k, hHo.alloc _⟩
      refine wpAnyH_mono (S1 := BlkL [(W.heap.size, 5, #[.int .u8 va]), (w.heap.size, 24, #[.int .u8 ky, .int .u8 lo, .int .u8 va, .int .u8 pd, .bool mk, .int .u16 tx, .int .u16 pg, .int .u16 sl]), (w.heap.size + 1, 31, #[.string ⟨#[]⟩, .bool false, .int .u64 0, .int .u32 0, .int .u16 0, .string ⟨#[]⟩, .int .i64 0])]) (fun _ h => h.2) _ _ _ _ ?_
      replace hH := hH'
      clear hH'
      try simp only [Act.put, List.setIfInBounds_toArray, List.set_cons_zero, List.set_cons_succ]
      refine wpAnyH_take (i := 10) (v := ?_) rfl (by kernel_rfl) (by kernel_rfl) (by kernel_rfl) (fun _ _ _ h => h) (Or.inl ⟨by rfl, ?_⟩) hH ?_
      rotate_left
      · (intro w_ hSw; obtain ⟨q0, q1, q2, _⟩ := hSw; have c0 := q0.cell; have c1 := q1.cell; have c2 := q2.cell; go_simp; try with_reducible rfl)
      simp only [Act.put, List.setIfInBounds_toArray, List.set_cons_zero, List.set_cons_succ]
      refine wpAnyH_ready (rs := [1, 17]) (by kernel_rfl) (by simp) ?_
      refine AllReadyH.cons rfl (fun K hK => ?_) ?_
      · go_simp
        refine (cell_key ky lo va pd tx pg sl mk _ hky hlo).mono ?_
        rintro e w1 ⟨k, hk1, hk2, rfl, hb1⟩
        go_wp2_with fail
        have hz1 := hb1.size
        try simp at hz1
        have hx1 := bt (bd (ba (hb) _)) hb1
        refine hK.out _ _ (hH.after hb1) (fun hH => ?_)
        clear hK K
        try simp only [Act.put, List.setIfInBounds_toArray, List.set_cons_zero, List.set_cons_succ]
        refine wpAnyH_ready (rs := [15, 17]) (by kernel_rfl) (by simp) ?_
        refine AllReadyH.cons rfl (fun K hK => ?_) ?_
        · go_simp
          refine (rep_any cn (UInt8.ofNat va) _ (by omega)).mono ?_
          rintro e w2 ⟨rfl, hb2⟩
          go_wp2_with fail
          have hz2 := hb2.size
          try simp at hz2
          have hx2 := bt (hx1) hb2
          refine hK.out _ _ (hH.after hb2) (fun hH => ?_)
          clear hK K
          try simp only [Act.put, List.setIfInBounds_toArray, List.set_cons_zero, List.set_cons_succ]
          refine wpAnyH_take (i := 16) (v := ?_) rfl (by kernel_rfl) (by kernel_rfl) (by kernel_rfl) (fun _ _ _ h => h) (Or.inl ⟨by rfl, ?_⟩) hH ?_
          rotate_left
          · (intro w_ hSw; go_simp; try with_reducible rfl)
          simp only [Act.put, List.setIfInBounds_toArray, List.set_cons_zero, List.set_cons_succ]
          refine wpAnyH_ready (rs := [17]) (by kernel_rfl) (by simp) ?_
          refine AllReadyH.cons rfl (fun K hK => ?_) ?_
          · have hHa := hH
            go_simp
            refine hK.out _ _ (hHa.alloc _) (fun hH => ?_)
            clear hK K
            have hA0 : Blk (w2.alloc (.cells #[.string ⟨#[]⟩, .bool false, .int .u64 0, .int .u32 0, .int .u16 0, .string ⟨#[]⟩, .int .i64 0] 31)) (w2.heap.size) 31 #[.string ⟨#[]⟩, .bool false, .int .u64 0, .int .u32 0, .int .u16 0, .string ⟨#[]⟩, .int .i64 0] := by have k := Blk.new w2 31 #[.string ⟨#[]⟩, .bool false, .int .u64 0, .int .u32 0, .int .u16 0, .string ⟨#[]⟩, .int .i64 0]; (try simp at k); exact k
            try simp only [Act.put, List.setIfInBounds_toArray, List.set_cons_zero, List.set_cons_succ]
            refine wpAnyH_ready (rs := [18]) (by kernel_rfl) (by simp) ?_
            refine AllReadyH.cons rfl (fun K hK => ?_) ?_
            · have cA := hA0.cell
              have fA := hA0.frozen
              have lA := hA0.lt
              go_simp
              refine hK.out _ _ (hHa.alloc _) (fun hH => ?_)
              clear hK K
              try simp only [Act.put, List.setIfInBounds_toArray, List.set_cons_zero, List.set_cons_succ]
              refine wpAnyH_done (by kernel_rfl) ?_ _
              go_wp2_with fail
              go_meet
              obtain ⟨_, hcc, hrr, _⟩ := hH
              exact ⟨w2.heap.size, k, List.replicate cn (UInt8.ofNat va), rfl, by omega, hk1, hk2, by simp; omega, Blk.new w2 31 _, hcc, hrr, ba hx2 _⟩
            exact AllReadyH.nil
          exact AllReadyH.nil
        refine AllReadyH.cons rfl (fun K hK => ?_) ?_
        · have hHa := hH
          go_simp
          refine hK.out _ _ (hHa.alloc _) (fun hH => ?_)
          clear hK K
          have hA0 : Blk (w1.alloc (.cells #[.string ⟨#[]⟩, .bool false, .int .u64 0, .int .u32 0, .int .u16 0, .string ⟨#[]⟩, .int .i64 0] 31)) (w1.heap.size) 31 #[.string ⟨#[]⟩, .bool false, .int .u64 0, .int .u32 0, .int .u16 0, .string ⟨#[]⟩, .int .i64 0] := by have k := Blk.new w1 31 #[.string ⟨#[]⟩, .bool false, .int .u64 0, .int .u32 0, .int .u16 0, .string ⟨#[]⟩, .int .i64 0]; (try simp at k); exact k
          try simp only [Act.put, List.setIfInBounds_toArray, List.set_cons_zero, List.set_cons_succ]
          refine wpAnyH_ready (rs := [15]) (by kernel_rfl) (by simp) ?_
          refine AllReadyH.cons rfl (fun K hK => ?_) ?_
          · go_simp
            refine (rep_any cn (UInt8.ofNat va) _ (by omega)).mono ?_
            rintro e w2 ⟨rfl, hb2⟩
            go_wp2_with fail
            have hz2 := hb2.size
            try simp at hz2
            have hx2 := bt (ba (hx1) _) hb2
            have hA2 := (hA0).after hb2
            refine hK.out _ _ (hH.after hb2) (fun hH => ?_)
            clear hK K
            try simp only [Act.put, List.setIfInBounds_toArray, List.set_cons_zero, List.set_cons_succ]
            refine wpAnyH_take (i := 16) (v := ?_) rfl (by kernel_rfl) (by kernel_rfl) (by kernel_rfl) (fun _ _ _ h => h) (Or.inl ⟨by rfl, ?_⟩) hH ?_
            rotate_left
            · (intro w_ hSw; go_simp; try with_reducible rfl)
            simp only [Act.put, List.setIfInBounds_toArray, List.set_cons_zero, List.set_cons_succ]
            refine wpAnyH_ready (rs := [18]) (by kernel_rfl) (by simp) ?_
            refine AllReadyH.cons rfl (fun K hK => ?_) ?_
            · have cA := hA2.cell
              have fA := hA2.frozen
              have lA := hA2.lt
              go_simp
              refine hK.out _ _ (BlkL.far (BlkL.far (BlkL.far (BlkL.far (BlkL.far (BlkL.far (BlkL.far (hH) ⟨w1.heap.size, 0, none⟩ (by simp; omega) (.string ⟨k.toArray⟩)) ⟨w1.heap.size, 1, none⟩ (by simp; omega) (.bool mk)) ⟨w1.heap.size, 2, none⟩ (by simp; omega) (.int .u64 tx)) ⟨w1.heap.size, 3, none⟩ (by simp; omega) (.int .u32 0)) ⟨w1.heap.size, 4, none⟩ (by simp; omega) (.int .u16 0)) ⟨w1.heap.size, 5, none⟩ (by simp; omega) (.string ⟨(List.replicate cn (UInt8.ofNat va)).toArray⟩)) ⟨w1.heap.size, 6, none⟩ (by simp; omega) (.int .i64 0)) (fun hH => ?_)
              clear hK K
              try simp only [Act.put, List.setIfInBounds_toArray, List.set_cons_zero, List.set_cons_succ]
              refine wpAnyH_done (by kernel_rfl) ?_ _
              go_wp2_with fail
              go_meet
              obtain ⟨_, hcc, hrr, _⟩ := hH
              exact ⟨w1.heap.size, k, List.replicate cn (UInt8.ofNat va), rfl, by omega, hk1, hk2, by simp; omega, hA2.seven_at _ _ _ _ _ _ _, hcc, hrr, bs (bs (bs (bs (bs (bs (bs (hx2) (p := ⟨w1.heap.size, 0, none⟩) (by show _ ≤ w1.heap.size; omega) (.string ⟨k.toArray⟩)) (p := ⟨w1.heap.size, 1, none⟩) (by show _ ≤ w1.heap.size; omega) (.bool mk)) (p := ⟨w1.heap.size, 2, none⟩) (by show _ ≤ w1.heap.size; omega) (.int .u64 tx)) (p := ⟨w1.heap.size, 3, none⟩) (by show _ ≤ w1.heap.size; omega) (.int .u32 0)) (p := ⟨w1.heap.size, 4, none⟩) (by show _ ≤ w1.heap.size; omega) (.int .u16 0)) (p := ⟨w1.heap.size, 5, none⟩) (by show _ ≤ w1.heap.size; omega) (.string ⟨(List.replicate cn (UInt8.ofNat va)).toArray⟩)) (p := ⟨w1.heap.size, 6, none⟩) (by show _ ≤ w1.heap.size; omega) (.int .i64 0)⟩
            exact AllReadyH.nil
          exact AllReadyH.nil
        exact AllReadyH.nil
      refine AllReadyH.cons rfl (fun K hK => ?_) ?_
      · have hHa := hH
        go_simp
        refine hK.out _ _ (hHa.alloc _) (fun hH => ?_)
        clear hK K
        have hA0 : Blk ((W.alloc (.cells #[.int .u8 va] 5)).alloc (.cells #[.string ⟨#[]⟩, .bool false, .int .u64 0, .int .u32 0, .int .u16 0, .string ⟨#[]⟩, .int .i64 0] 31)) (W.heap.size + 1) 31 #[.string ⟨#[]⟩, .bool false, .int .u64 0, .int .u32 0, .int .u16 0, .string ⟨#[]⟩, .int .i64 0] := by have k := Blk.new (W.alloc (.cells #[.int .u8 va] 5)) 31 #[.string ⟨#[]⟩, .bool false, .int .u64 0, .int .u32 0, .int .u16 0, .string ⟨#[]⟩, .int .i64 0]; (try simp at k); exact k
        try simp only [Act.put, List.setIfInBounds_toArray, List.set_cons_zero, List.set_cons_succ]
        refine wpAnyH_ready (rs := [1]) (by kernel_rfl) (by simp) ?_
        refine AllReadyH.cons rfl (fun K hK => ?_) ?_
        · go_simp
          refine (cell_key ky lo va pd tx pg sl mk _ hky hlo).mono ?_
          rintro e w1 ⟨k, hk1, hk2, rfl, hb1⟩
          go_wp2_with fail
          have hz1 := hb1.size
          try simp at hz1
          have hx1 := bt (bd (ba (ba (hb) _) _)) hb1
          have hA1 := (hA0).drew.after hb1
          refine hK.out _ _ (hH.after hb1) (fun hH => ?_)
          clear hK K
          try simp only [Act.put, List.setIfInBounds_toArray, List.set_cons_zero, List.set_cons_succ]
          refine wpAnyH_ready (rs := [15]) (by kernel_rfl) (by simp) ?_
          refine AllReadyH.cons rfl (fun K hK => ?_) ?_
          · go_simp
            refine (rep_any cn (UInt8.ofNat va) _ (by omega)).mono ?_
            rintro e w2 ⟨rfl, hb2⟩
            go_wp2_with fail
            have hz2 := hb2.size
            try simp at hz2
            have hx2 := bt (hx1) hb2
            have hA2 := (hA1).after hb2
            refine hK.out _ _ (hH.after hb2) (fun hH => ?_)
            clear hK K
            try simp only [Act.put, List.setIfInBounds_toArray, List.set_cons_zero, List.set_cons_succ]
            refine wpAnyH_take (i := 16) (v := ?_) rfl (by kernel_rfl) (by kernel_rfl) (by kernel_rfl) (fun _ _ _ h => h) (Or.inl ⟨by rfl, ?_⟩) hH ?_
            rotate_left
            · (intro w_ hSw; go_simp; try with_reducible rfl)
            simp only [Act.put, List.setIfInBounds_toArray, List.set_cons_zero, List.set_cons_succ]
            refine wpAnyH_ready (rs := [18]) (by kernel_rfl) (by simp) ?_
            refine AllReadyH.cons rfl (fun K hK => ?_) ?_
            · have cA := hA2.cell
              have fA := hA2.frozen
              have lA := hA2.lt
              go_simp
              refine hK.out _ _ (BlkL.far (BlkL.far (BlkL.far (BlkL.far (BlkL.far (BlkL.far (BlkL.far (hH) ⟨W.heap.size + 1, 0, none⟩ (by simp; omega) (.string ⟨k.toArray⟩)) ⟨W.heap.size + 1, 1, none⟩ (by simp; omega) (.bool mk)) ⟨W.heap.size + 1, 2, none⟩ (by simp; omega) (.int .u64 tx)) ⟨W.heap.size + 1, 3, none⟩ (by simp; omega) (.int .u32 0)) ⟨W.heap.size + 1, 4, none⟩ (by simp; omega) (.int .u16 0)) ⟨W.heap.size + 1, 5, none⟩ (by simp; omega) (.string ⟨(List.replicate cn (UInt8.ofNat va)).toArray⟩)) ⟨W.heap.size + 1, 6, none⟩ (by simp; omega) (.int .i64 0)) (fun hH => ?_)
              clear hK K
              try simp only [Act.put, List.setIfInBounds_toArray, List.set_cons_zero, List.set_cons_succ]
              refine wpAnyH_done (by kernel_rfl) ?_ _
              go_wp2_with fail
              go_meet
              obtain ⟨_, hcc, hrr, _⟩ := hH
              exact ⟨W.heap.size + 1, k, List.replicate cn (UInt8.ofNat va), rfl, by omega, hk1, hk2, by simp; omega, hA2.seven_at _ _ _ _ _ _ _, hcc, hrr, bs (bs (bs (bs (bs (bs (bs (hx2) (p := ⟨W.heap.size + 1, 0, none⟩) (by show _ ≤ W.heap.size + 1; omega) (.string ⟨k.toArray⟩)) (p := ⟨W.heap.size + 1, 1, none⟩) (by show _ ≤ W.heap.size + 1; omega) (.bool mk)) (p := ⟨W.heap.size + 1, 2, none⟩) (by show _ ≤ W.heap.size + 1; omega) (.int .u64 tx)) (p := ⟨W.heap.size + 1, 3, none⟩) (by show _ ≤ W.heap.size + 1; omega) (.int .u32 0)) (p := ⟨W.heap.size + 1, 4, none⟩) (by show _ ≤ W.heap.size + 1; omega) (.int .u16 0)) (p := ⟨W.heap.size + 1, 5, none⟩) (by show _ ≤ W.heap.size + 1; omega) (.string ⟨(List.replicate cn (UInt8.ofNat va)).toArray⟩)) (p := ⟨W.heap.size + 1, 6, none⟩) (by show _ ≤ W.heap.size + 1; omega) (.int .i64 0)⟩
            exact AllReadyH.nil
          exact AllReadyH.nil
        exact AllReadyH.nil
      exact AllReadyH.nil
    refine AllReadyH.cons rfl (fun K hK => ?_) ?_
    · have hHa := hH
      go_simp
      refine hK.out _ _ (hHa.alloc _) (fun hH => ?_)
      clear hK K
      have hA0 : Blk (W.alloc (.cells #[.string ⟨#[]⟩, .bool false, .int .u64 0, .int .u32 0, .int .u16 0, .string ⟨#[]⟩, .int .i64 0] 31)) (W.heap.size) 31 #[.string ⟨#[]⟩, .bool false, .int .u64 0, .int .u32 0, .int .u16 0, .string ⟨#[]⟩, .int .i64 0] := by have k := Blk.new W 31 #[.string ⟨#[]⟩, .bool false, .int .u64 0, .int .u32 0, .int .u16 0, .string ⟨#[]⟩, .int .i64 0]; (try simp at k); exact k
      try simp only [Act.put, List.setIfInBounds_toArray, List.set_cons_zero, List.set_cons_succ]
      refine wpAnyH_ready (rs := [1, 9]) (by kernel_rfl) (by simp) ?_
      refine AllReadyH.cons rfl (fun K hK => ?_) ?_
      · go_simp
        refine (cell_key ky lo va pd tx pg sl mk _ hky hlo).mono ?_
        rintro e w1 ⟨k, hk1, hk2, rfl, hb1⟩
        go_wp2_with fail
        have hz1 := hb1.size
        try simp at hz1
        have hx1 := bt (bd (ba (hb) _)) hb1
        have hA1 := (hA0).drew.after hb1
        refine hK.out _ _ (hH.after hb1) (fun hH => ?_)
        clear hK K
        try simp only [Act.put, List.setIfInBounds_toArray, List.set_cons_zero, List.set_cons_succ]
        refine wpAnyH_ready (rs := [9]) (by kernel_rfl) (by simp) ?_
        refine AllReadyH.cons rfl (fun K hK => ?_) ?_
        · have hHo := hH
          go_simp
          refine hK.out _ _ (hHo.alloc _) (fun hH => ?_)
          clear hK K
          have hH' : BlkL [(w1.heap.size, 5, #[.int .u8 va]), (w.heap.size, 24, #[.int .u8 ky, .int .u8 lo, .int .u8 va, .int .u8 pd, .bool mk, .int .u16 tx, .int .u16 pg, .int .u16 sl]), (w.heap.size + 1, 31, #[.string ⟨#[]⟩, .bool false, .int .u64 0, .int .u32 0, .int .u16 0, .string ⟨#[]⟩, .int .i64 0])] (World.alloc _ (.cells #[.int .u8 va] 5)) := ⟨by have k := Blk.new w1 5 #[.int .u8 va]; (try simp at k); exact k, hHo.alloc _⟩
          refine wpAnyH_mono (S1 := BlkL [(w1.heap.size, 5, #[.int .u8 va]), (w.heap.size, 24, #[.int .u8 ky, .int .u8 lo, .int .u8 va, .int .u8 pd, .bool mk, .int .u16 tx, .int .u16 pg, .int .u16 sl]), (w.heap.size + 1, 31, #[.string ⟨#[]⟩, .bool false, .int .u64 0, .int .u32 0, .int .u16 0, .string ⟨#[]⟩, .int .i64 0])]) (fun _ h => h.2) _ _ _ _ ?_
          replace hH := hH'
          clear hH'
          try simp only [Act.put, List.setIfInBounds_toArray, List.set_cons_zero, List.set_cons_succ]
          refine wpAnyH_take (i := 10) (v := ?_) rfl (by kernel_rfl) (by kernel_rfl) (by kernel_rfl) (fun _ _ _ h => h) (Or.inl ⟨by rfl, ?_⟩) hH ?_
          rotate_left
          · (intro w_ hSw; obtain ⟨q0, q1, q2, _⟩ := hSw; have c0 := q0.cell; have c1 := q1.cell; have c2 := q2.cell; go_simp; try with_reducible rfl)
          simp only [Act.put, List.setIfInBounds_toArray, List.set_cons_zero, List.set_cons_succ]
          refine wpAnyH_ready (rs := [15]) (by kernel_rfl) (by simp) ?_
          refine AllReadyH.cons rfl (fun K hK => ?_) ?_
          · go_simp
            refine (rep_any cn (UInt8.ofNat va) _ (by omega)).mono ?_
            rintro e w2 ⟨rfl, hb2⟩
            go_wp2_with fail
            have hz2 := hb2.size
            try simp at hz2
            have hx2 := bt (ba (hx1) _) hb2
            have hA2 := (hA1.alloc _).after hb2
            refine hK.out _ _ (hH.after hb2) (fun hH => ?_)
            clear hK K
            try simp only [Act.put, List.setIfInBounds_toArray, List.set_cons_zero, List.set_cons_succ]
            refine wpAnyH_take (i := 16) (v := ?_) rfl (by kernel_rfl) (by kernel_rfl) (by kernel_rfl) (fun _ _ _ h => h) (Or.inl ⟨by rfl, ?_⟩) hH ?_
            rotate_left
            · (intro w_ hSw; go_simp; try with_reducible rfl)
            simp only [Act.put, List.setIfInBounds_toArray, List.set_cons_zero, List.set_cons_succ]
            refine wpAnyH_ready (rs := [18]) (by kernel_rfl) (by simp) ?_
            refine AllReadyH.cons rfl (fun K hK => ?_) ?_
            · have cA := hA2.cell
              have fA := hA2.frozen
              have lA := hA2.lt
              go_simp
              refine hK.out _ _ (BlkL.far (BlkL.far (BlkL.far (BlkL.far (BlkL.far (BlkL.far (BlkL.far (hH) ⟨W.heap.size, 0, none⟩ (by simp; omega) (.string ⟨k.toArray⟩)) ⟨W.heap.size, 1, none⟩ (by simp; omega) (.bool mk)) ⟨W.heap.size, 2, none⟩ (by simp; omega) (.int .u64 tx)) ⟨W.heap.size, 3, none⟩ (by simp; omega) (.int .u32 0)) ⟨W.heap.size, 4, none⟩ (by simp; omega) (.int .u16 0)) ⟨W.heap.size, 5, none⟩ (by simp; omega) (.string ⟨(List.replicate cn (UInt8.ofNat va)).toArray⟩)) ⟨W.heap.size, 6, none⟩ (by simp; omega) (.int .i64 0)) (fun hH => ?_)
              clear hK K
              try simp only [Act.put, List.setIfInBounds_toArray, List.set_cons_zero, List.set_cons_succ]
              refine wpAnyH_done (by kernel_rfl) ?_ _
              go_wp2_with fail
              go_meet
              obtain ⟨_, hcc, hrr, _⟩ := hH
              exact ⟨W.heap.size, k, List.replicate cn (UInt8.ofNat va), rfl, by omega, hk1, hk2, by simp; omega, hA2.seven_at _ _ _ _ _ _ _, hcc, hrr, bs (bs (bs (bs (bs (bs (bs (hx2) (p := ⟨W.heap.size, 0, none⟩) (by show _ ≤ W.heap.size; omega) (.string ⟨k.toArray⟩)) (p := ⟨W.heap.size, 1, none⟩) (by show _ ≤ W.heap.size; omega) (.bool mk)) (p := ⟨W.heap.size, 2, none⟩) (by show _ ≤ W.heap.size; omega) (.int .u64 tx)) (p := ⟨W.heap.size, 3, none⟩) (by show _ ≤ W.heap.size; omega) (.int .u32 0)) (p := ⟨W.heap.size, 4, none⟩) (by show _ ≤ W.heap.size; omega) (.int .u16 0)) (p := ⟨W.heap.size, 5, none⟩) (by show _ ≤ W.heap.size; omega) (.string ⟨(List.replicate cn (UInt8.ofNat va)).toArray⟩)) (p := ⟨W.heap.size, 6, none⟩) (by show _ ≤ W.heap.size; omega) (.int .i64 0)⟩
            exact AllReadyH.nil
          exact AllReadyH.nil
        exact AllReadyH.nil
      refine AllReadyH.cons rfl (fun K hK => ?_) ?_
      · have hHo := hH
        go_simp
        refine hK.out _ _ (hHo.alloc _) (fun hH => ?_)
        clear hK K
        have hH' : BlkL [(W.heap.size + 1, 5, #[.int .u8 va]), (w.heap.size, 24, #[.int .u8 ky, .int .u8 lo, .int .u8 va, .int .u8 pd, .bool mk, .int .u16 tx, .int .u16 pg, .int .u16 sl]), (w.heap.size + 1, 31, #[.string ⟨#[]⟩, .bool false, .int .u64 0, .int .u32 0, .int .u16 0, .string ⟨#[]⟩, .int .i64 0])] (World.alloc _ (.cells #[.int .u8 va] 5)) := ⟨by have k := Blk.new (W.drew.alloc (.cells #[.string ⟨#[]⟩, .bool false, .int .u64 0, .int .u32 0, .int .u16 0, .string ⟨#[]⟩, .int .i64 0] 31)) 5 #[.int .u8 va]; (try simp at k); exact k, hHo.alloc _⟩
        refine wpAnyH_mono (S1 := BlkL [(W.heap.size + 1, 5, #[.int .u8 va]), (w.heap.size, 24, #[.int .u8 ky, .int .u8 lo, .int .u8 va, .int .u8 pd, .bool mk, .int .u16 tx, .int .u16 pg, .int .u16 sl]), (w.heap.size + 1, 31, #[.string ⟨#[]⟩, .bool false, .int .u64 0, .int .u32 0, .int .u16 0, .string ⟨#[]⟩, .int .i64 0])]) (fun _ h => h.2) _ _ _ _ ?_
        replace hH := hH'
        clear hH'
        try simp only [Act.put, List.setIfInBounds_toArray, List.set_cons_zero, List.set_cons_succ]
        refine wpAnyH_take (i := 10) (v := ?_) rfl (by kernel_rfl) (by kernel_rfl) (by kernel_rfl) (fun _ _ _ h => h) (Or.inl ⟨by rfl, ?_⟩) hH ?_
        rotate_left
        · (intro w_ hSw; obtain ⟨q0, q1, q2, _⟩ := hSw; have c0 := q0.cell; have c1 := q1.cell; have c2 := q2.cell; go_simp; try with_reducible rfl)
        simp only [Act.put, List.setIfInBounds_toArray, List.set_cons_zero, List.set_cons_succ]
        refine wpAnyH_ready (rs := [1]) (by kernel_rfl) (by simp) ?_
        refine AllReadyH.cons rfl (fun K hK => ?_) ?_
        · go_simp
          refine (cell_key ky lo va pd tx pg sl mk _ hky hlo).mono ?_
          rintro e w1 ⟨k, hk1, hk2, rfl, hb1⟩
          go_wp2_with fail
          have hz1 := hb1.size
          try simp at hz1
          have hx1 := bt (bd (ba (ba (hb) _) _)) hb1
          have hA1 := (hA0.alloc _).drew.after hb1
          refine hK.out _ _ (hH.after hb1) (fun hH => ?_)
          clear hK K
          try simp only [Act.put, List.setIfInBounds_toArray, List.set_cons_zero, List.set_cons_succ]
          refine wpAnyH_ready (rs := [15]) (by kernel_rfl) (by simp) ?_
          refine AllReadyH.cons rfl (fun K hK => ?_) ?_
          · go_simp
            refine (rep_any cn (UInt8.ofNat va) _ (by omega)).mono ?_
            rintro e w2 ⟨rfl, hb2⟩
            go_wp2_with fail
            have hz2 := hb2.size
            try simp at hz2
            have hx2 := bt (hx1) hb2
            have hA2 := (hA1).after hb2
            refine hK.out _ _ (hH.after hb2) (fun hH => ?_)
            clear hK K
            try simp only [Act.put, List.setIfInBounds_toArray, List.set_cons_zero, List.set_cons_succ]
            refine wpAnyH_take (i := 16) (v := ?_) rfl (by kernel_rfl) (by kernel_rfl) (by kernel_rfl) (fun _ _ _ h => h) (Or.inl ⟨by rfl, ?_⟩) hH ?_
            rotate_left
            · (intro w_ hSw; go_simp; try with_reducible rfl)
            simp only [Act.put, List.setIfInBounds_toArray, List.set_cons_zero, List.set_cons_succ]
            refine wpAnyH_ready (rs := [18]) (by kernel_rfl) (by simp) ?_
            refine AllReadyH.cons rfl (fun K hK => ?_) ?_
            · have cA := hA2.cell
              have fA := hA2.frozen
              have lA := hA2.lt
              go_simp
              refine hK.out _ _ (BlkL.far (BlkL.far (BlkL.far (BlkL.far (BlkL.far (BlkL.far (BlkL.far (hH) ⟨W.heap.size, 0, none⟩ (by simp; omega) (.string ⟨k.toArray⟩)) ⟨W.heap.size, 1, none⟩ (by simp; omega) (.bool mk)) ⟨W.heap.size, 2, none⟩ (by simp; omega) (.int .u64 tx)) ⟨W.heap.size, 3, none⟩ (by simp; omega) (.int .u32 0)) ⟨W.heap.size, 4, none⟩ (by simp; omega) (.int .u16 0)) ⟨W.heap.size, 5, none⟩ (by simp; omega) (.string ⟨(List.replicate cn (UInt8.ofNat va)).toArray⟩)) ⟨W.heap.size, 6, none⟩ (by simp; omega) (.int .i64 0)) (fun hH => ?_)
              clear hK K
              try simp only [Act.put, List.setIfInBounds_toArray, List.set_cons_zero, List.set_cons_succ]
              refine wpAnyH_done (by kernel_rfl) ?_ _
              go_wp2_with fail
              go_meet
              obtain ⟨_, hcc, hrr, _⟩ := hH
              exact ⟨W.heap.size, k, List.replicate cn (UInt8.ofNat va), rfl, by omega, hk1, hk2, by simp; omega, hA2.seven_at _ _ _ _ _ _ _, hcc, hrr, bs (bs (bs (bs (bs (bs (bs (hx2) (p := ⟨W.heap.size, 0, none⟩) (by show _ ≤ W.heap.size; omega) (.string ⟨k.toArray⟩)) (p := ⟨W.heap.size, 1, none⟩) (by show _ ≤ W.heap.size; omega) (.bool mk)) (p := ⟨W.heap.size, 2, none⟩) (by show _ ≤ W.heap.size; omega) (.int .u64 tx)) (p := ⟨W.heap.size, 3, none⟩) (by show _ ≤ W.heap.size; omega) (.int .u32 0)) (p := ⟨W.heap.size, 4, none⟩) (by show _ ≤ W.heap.size; omega) (.int .u16 0)) (p := ⟨W.heap.size, 5, none⟩) (by show _ ≤ W.heap.size; omega) (.string ⟨(List.replicate cn (UInt8.ofNat va)).toArray⟩)) (p := ⟨W.heap.size, 6, none⟩) (by show _ ≤ W.heap.size; omega) (.int .i64 0)⟩
            exact AllReadyH.nil
          exact AllReadyH.nil
        exact AllReadyH.nil
      exact AllReadyH.nil
    exact AllReadyH.nil
  case rest =>
    obtain ⟨K, k, v, rfl, hK, hk1, hk2, hv, hA, hC, hR, hb⟩ := hcut
    have hvp : (1 : Int) ≤ 97 - (v.length : Int) := by omega
    have hmod0 := Int.emod_nonneg (pd : Int) (show (97 - (v.length : Int)) ≠ 0 by omega)
    have hmod1 := Int.emod_lt_of_pos (pd : Int) (show 0 < (97 - (v.length : Int)) by omega)
    obtain ⟨pad, hpad⟩ : ∃ pad : Nat, (pd : Int) % (97 - (v.length : Int)) = (pad : Int) := ⟨((pd : Int) % (97 - (v.length : Int))).toNat, by omega⟩
    rw [hpad] at hmod0 hmod1
    clear hmod0
    have cC := hC.cell
    have cA := hA.cell
    have fA := hA.frozen
    have cR := hR.cell
    have fR := hR.frozen
    have lA := hA.lt
    have nAR : K ≠ w.heap.size + 1 := by omega
    have nRA : w.heap.size + 1 ≠ K := by omega
    have nAC : K ≠ w.heap.size := by omega
    have nCA : w.heap.size ≠ K := by omega
    by_cases h3 : 0 < pg % 3
    · have h3' : decide (0 < (pg : Int) % 3) = true := by simp; omega
      go_wp2_with fail
      refine bodyPost_ret (v := .agg #[.string ⟨k.toArray⟩, .bool mk, .int .u64 tx, .int .u32 (1 + (pg : Int) % 1024), .int .u16 sl, .string ⟨v.toArray⟩, .int .i64 pad]) (by simp [results, Try.results4, go_sem, cR, fR]) rfl
        ⟨k, v, 1 + pg % 1024, sl, pad, hk2, hv, by omega, hsl, by omega, by unfold Pm.may; simp; omega, by simp, ?_⟩
      exact bs (bs (bs (bs (bs (bs (bs (bs (bs (bs (hb) (p := ⟨K, 6, none⟩) (by show _ ≤ K; omega) _) (p := ⟨K, 3, none⟩) (by show _ ≤ K; omega) _) (p := ⟨K, 4, none⟩) (by show _ ≤ K; omega) _) (p := ⟨w.heap.size + 1, 0, none⟩) (by show _ ≤ w.heap.size + 1; omega) _) (p := ⟨w.heap.size + 1, 1, none⟩) (by show _ ≤ w.heap.size + 1; omega) _) (p := ⟨w.heap.size + 1, 2, none⟩) (by show _ ≤ w.heap.size + 1; omega) _) (p := ⟨w.heap.size + 1, 3, none⟩) (by show _ ≤ w.heap.size + 1; omega) _) (p := ⟨w.heap.size + 1, 4, none⟩) (by show _ ≤ w.heap.size + 1; omega) _) (p := ⟨w.heap.size + 1, 5, none⟩) (by show _ ≤ w.heap.size + 1; omega) _) (p := ⟨w.heap.size + 1, 6, none⟩) (by show _ ≤ w.heap.size + 1; omega) _
    · have h3' : decide (0 < (pg : Int) % 3) = false := by simp; omega
      go_wp2_with fail
      refine bodyPost_ret (v := .agg #[.string ⟨k.toArray⟩, .bool mk, .int .u64 tx, .int .u32 0, .int .u16 0, .string ⟨v.toArray⟩, .int .i64 pad]) (by simp [results, Try.results4, go_sem, cR, fR]) rfl
        ⟨k, v, 0, 0, pad, hk2, hv, by omega, by omega, by omega, by unfold Pm.may; simp; omega, rfl, ?_⟩
      exact bs (bs (bs (bs (bs (bs (bs (bs (hb) (p := ⟨K, 6, none⟩) (by show _ ≤ K; omega) _) (p := ⟨w.heap.size + 1, 0, none⟩) (by show _ ≤ w.heap.size + 1; omega) _) (p := ⟨w.heap.size + 1, 1, none⟩) (by show _ ≤ w.heap.size + 1; omega) _) (p := ⟨w.heap.size + 1, 2, none⟩) (by show _ ≤ w.heap.size + 1; omega) _) (p := ⟨w.heap.size + 1, 3, none⟩) (by show _ ≤ w.heap.size + 1; omega) _) (p := ⟨w.heap.size + 1, 4, none⟩) (by show _ ≤ w.heap.size + 1; omega) _) (p := ⟨w.heap.size + 1, 5, none⟩) (by show _ ≤ w.heap.size + 1; omega) _) (p := ⟨w.heap.size + 1, 6, none⟩) (by show _ ≤ w.heap.size + 1; omega) _
end Go.Proofs.Ytaddjpngjhkkmaa
