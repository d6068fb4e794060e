/- A page's bytes by hand are 512. -/
import Derived.Test.YtkbjmgenceghlaaU4
namespace Go.Proofs.Ytkbjmgenceghlaa
open Go.RowKit
attribute [local go_sem ↓] add_short
attribute [local go_sem ↓] Go.wp_at_zero Go.wp_at_succ
def SomePage (w : World) (e : Ending) (w' : World) : Prop := ∃ l : List UInt8, l.length = 512 ∧ e = .returned (.string ⟨l.toArray⟩) ∧ Below w.heap.size w w'
set_option maxRecDepth 100000 in
set_option maxHeartbeats 2000000 in
theorem paged_any (id lsn g : Nat) (r : List UInt8) (w : World) (hr : r.length ≤ 255) (hc : w.cell? ⟨g, 0, none⟩ = some (.string ⟨r.toArray⟩)) (hid : id ≤ 20000) (hlsn : lsn ≤ 20000) :
    Calls Try.prog 11 #[.agg #[.int .u8 5, .int .u8 0, .int .u32 id, .int .u64 lsn, .int .u32 0, .slice (some ⟨g, 0, none⟩) 1 1]] w (SomePage w) := by
  have hgl := World.block_lt_of_cell? w ⟨g, 0, none⟩ hc
  obtain ⟨n, hn⟩ : ∃ n, n = r.length := ⟨_, rfl⟩
  rw [← hn] at hr
  have HN := Lib.hid hn
  clear hn
  go_enter Try.func11, Try.ntmps11
  go_wp2_with fail
  have hP := Blk.new w 45 #[.int .u8 5, .int .u8 0, .int .u32 id, .int .u64 lsn, .int .u32 0, .slice (some ⟨g, 0, none⟩) 1 1]
  have hb0 := ba (Below.refl w.heap.size w) (.cells #[.int .u8 5, .int .u8 0, .int .u32 id, .int .u64 lsn, .int .u32 0, .slice (some ⟨g, 0, none⟩) 1 1] 45)
  obtain ⟨bP, hbP⟩ : ∃ b, b = w.heap.size := ⟨_, rfl⟩
  rw [← hbP] at hP ⊢
  clear hbP
  go_loopw [3, 4, 11] (fun d t i wr => ∃ (k : Nat) (dl tl : List UInt8), k ≤ 1 ∧ i = .int .i64 k ∧ d = .string ⟨dl.toArray⟩ ∧ t = .string ⟨tl.toArray⟩ ∧ Hid (dl.length = k * 4 ∧ tl.length = k * n) ∧ Blk wr bP 45 #[.int .u8 5, .int .u8 0, .int .u32 id, .int .u64 lsn, .int .u32 0, .slice (some ⟨g, 0, none⟩) 1 1] ∧ Below w.heap.size w wr) (fun _ _ i _ => 1 - (intOf i).toNat)
  case atStart => exact ⟨0, [], [], by omega, rfl, rfl, rfl, Lib.hid ⟨rfl, by simp⟩, hP, hb0⟩
  case round =>
    clear hP hb0
    obtain ⟨k, dl, tl, hk, rfl, rfl, rfl, HL, hP, hb⟩ := hrel
    by_cases hlt : k < 1
    · have hk0 : k = 0 := by omega
      have hcw : wr.cell? ⟨g, k, none⟩ = some (.string ⟨r.toArray⟩) := by rw [hk0, hb.cell (p := ⟨g, 0, none⟩) hgl]; exact hc
      have HK := Lib.hid hk0
      have h1 : Short r 300 := ⟨by have := HN.out; omega⟩
      have h2 : Short dl 10 := ⟨by have := HL.out.1; omega⟩
      have h3 : Short tl 300 := ⟨by have := HL.out.2; rw [hk0] at this; omega⟩
      obtain ⟨q, hq⟩ : ∃ q : Nat, (488 : Int) - (n : Int) = (q : Int) := ⟨488 - n, by omega⟩
      have hrn : r.length = n := HN.out.symm
      have htl : tl.length = 0 := by have := HL.out.2; rw [hk0] at this; omega
      have hrt : (r ++ tl).length = n := by simp [hrn, htl]
      clear hk0
      go_wp2_with fail
      refine (high_any q 2 _ (by omega)).mono ?_
      rintro e w2 ⟨rfl, hb2⟩
      go_wp2_with fail
      refine (high_any n 2 _ (by omega)).mono ?_
      rintro e w3 ⟨rfl, hb3⟩
      clear hrn htl hq hrt
      go_wp2_with fail
      go_roundw
      case rel => exact ⟨k + 1, _, _, by omega, by go_num, rfl, rfl, Lib.hid ⟨by have := HL.out.1; have := HK.out; simp [Pm.be_length]; omega, by have h1 := HL.out.2; have := HN.out; rw [HK.out] at h1 ⊢; simp; omega⟩, (hP.after hb2).after hb3, bt (bt hb hb2) hb3⟩
      case measure => simp [intOf]; omega
    · obtain rfl : k = 1 := by omega
      obtain ⟨q, hq⟩ : ∃ q : Nat, (488 : Int) - (n : Int) = (q : Int) := ⟨488 - n, by omega⟩
      obtain ⟨q2, hq2⟩ : ∃ q2 : Nat, (480 : Int) - (n : Int) = (q2 : Int) := ⟨480 - n, by omega⟩
      have h2 : Short dl 10 := ⟨by have := HL.out.1; omega⟩
      have h3 : Short tl 300 := ⟨by have := HL.out.2; omega⟩
      have hz : Short (Pm.zeros q2) 600 := ⟨by rw [Pm.zeros_length]; omega⟩
      have hdl : dl.length = 4 := by have := HL.out.1; omega
      have htl : tl.length = n := by have := HL.out.2; omega
      have cP := hP.cell
      go_wp2_with fail
      refine (high_any 1 2 _ (by omega)).mono ?_
      rintro e w2 ⟨rfl, hb2⟩
      go_wp2_with fail
      refine (high_any q 2 _ (by omega)).mono ?_
      rintro e w3 ⟨rfl, hb3⟩
      have hbl1 := Pm.be_length 1 2
      have hbl2 := Pm.be_length q 2
      go_wp2_with fail
      refine (rep0 q2 _ (by omega)).mono ?_
      rintro e w4 ⟨rfl, hb4⟩
      have hbw4 := bt (bt (bt hb hb2) hb3) hb4
      have hP4 := ((hP.after hb2).after hb3).after hb4
      have hAl : (Pm.be 1 2 ++ (Pm.be q 2 ++ dl) ++ (Pm.zeros q2 ++ tl)).length = 488 := by simp [Pm.be_length, Pm.zeros_length, hdl, htl]; omega
      clear cP hdl htl hq hq2 hbl1 hbl2 hP hb2 hb3 hb4 hb
      go_wp2_with fail
      generalize hZ : Pm.be 1 2 ++ (Pm.be q 2 ++ (dl ++ (Pm.zeros q2 ++ tl))) = Z at *
      have hZl : Z.length = 488 := by rw [← hZ]; simpa using hAl
      have hsZ : Short Z 500 := ⟨by omega⟩
      clear hZ hAl
      have hwid : IntKind.u64.wrap (id : Int) = id := IntWalk.u64_in _ (by omega)
      refine wp_region_phase 27 (fun w' => Blk w' bP 45 #[.int .u8 5, .int .u8 0, .int .u32 id, .int .u64 lsn, .int .u32 0, .slice (some ⟨g, 0, none⟩) 1 1]) (by kernel_rfl) hP4.drew (fun hH => ?_)
      refine wpAnyP_take 0 (some 55) (v := ?_) rfl rfl (by kernel_rfl) (fun _ _ _ h => h) hH (Or.inl ⟨by rfl, ?_⟩) ?_
      rotate_left
      · (intro w_ hSw; go_simp; try with_reducible rfl)
      simp only [Act.put, List.setIfInBounds_toArray, List.set_cons_zero, List.set_cons_succ]
      refine wpAnyP_take 1 (some 56) (v := ?_) rfl rfl (by kernel_rfl) (fun _ _ _ h => h) hH (Or.inl ⟨by rfl, ?_⟩) ?_
      rotate_left
      · (intro w_ hSw; have cS := hSw.cell; go_simp; try with_reducible rfl)
      simp only [Act.put, List.setIfInBounds_toArray, List.set_cons_zero, List.set_cons_succ]
      refine wpAnyP_take 2 (some 57) (v := ?_) rfl rfl (by kernel_rfl) (fun _ _ _ h => h) hH (Or.inl ⟨by rfl, ?_⟩) ?_
      rotate_left
      · (intro w_ hSw; go_simp; try with_reducible rfl)
      simp only [Act.put, List.setIfInBounds_toArray, List.set_cons_zero, List.set_cons_succ]
      refine wpAnyP_take 4 (some 59) (v := ?_) rfl rfl (by kernel_rfl) (fun _ _ _ h => h) hH (Or.inl ⟨by rfl, ?_⟩) ?_
      rotate_left
      · (intro w_ hSw; go_simp; try with_reducible rfl)
      simp only [Act.put, List.setIfInBounds_toArray, List.set_cons_zero, List.set_cons_succ]
      refine wpAnyP_take 5 (some 60) (v := ?_) rfl rfl (by kernel_rfl) (fun _ _ _ h => h) hH (Or.inl ⟨by rfl, ?_⟩) ?_
      rotate_left
      · (intro w_ hSw; have cS := hSw.cell; go_simp; try with_reducible rfl)
      simp only [Act.put, List.setIfInBounds_toArray, List.set_cons_zero, List.set_cons_succ]
      refine wpAnyP_take 6 (some 61) (v := ?_) rfl rfl (by kernel_rfl) (fun _ _ _ h => h) hH (Or.inl ⟨by rfl, ?_⟩) ?_
      rotate_left
      · (intro w_ hSw; go_simp; try with_reducible rfl)
      simp only [Act.put, List.setIfInBounds_toArray, List.set_cons_zero, List.set_cons_succ]
      refine wpAnyP_take 9 (some 64) (v := ?_) rfl rfl (by kernel_rfl) (fun _ _ _ h => h) hH (Or.inl ⟨by rfl, ?_⟩) ?_
      rotate_left
      · (intro w_ hSw; go_simp; try with_reducible rfl)
      simp only [Act.put, List.setIfInBounds_toArray, List.set_cons_zero, List.set_cons_succ]
      refine wpAnyP_take 10 (some 65) (v := ?_) rfl rfl (by kernel_rfl) (fun _ _ _ h => h) hH (Or.inl ⟨by rfl, ?_⟩) ?_
      rotate_left
      · (intro w_ hSw; have cS := hSw.cell; go_simp; try with_reducible rfl)
      simp only [Act.put, List.setIfInBounds_toArray, List.set_cons_zero, List.set_cons_succ]
      refine wpAnyP_take 11 (some 66) (v := ?_) rfl rfl (by kernel_rfl) (fun _ _ _ h => h) hH (Or.inl ⟨by rfl, ?_⟩) ?_
      rotate_left
      · (intro w_ hSw; go_simp; try with_reducible rfl)
      simp only [Act.put, List.setIfInBounds_toArray, List.set_cons_zero, List.set_cons_succ]
      refine wpAnyP_take 14 (some 69) (v := ?_) rfl rfl (by kernel_rfl) (fun _ _ _ h => h) hH (Or.inl ⟨by rfl, ?_⟩) ?_
      rotate_left
      · (intro w_ hSw; go_simp; try with_reducible rfl)
      simp only [Act.put, List.setIfInBounds_toArray, List.set_cons_zero, List.set_cons_succ]
      refine wpAnyP_take 15 (some 70) (v := ?_) rfl rfl (by kernel_rfl) (fun _ _ _ h => h) hH (Or.inl ⟨by rfl, ?_⟩) ?_
      rotate_left
      · (intro w_ hSw; have cS := hSw.cell; go_simp; try with_reducible rfl)
      simp only [Act.put, List.setIfInBounds_toArray, List.set_cons_zero, List.set_cons_succ]
      refine wpAnyP_take 18 (some 73) (v := ?_) rfl rfl (by kernel_rfl) (fun _ _ _ h => h) hH (Or.inl ⟨by rfl, ?_⟩) ?_
      rotate_left
      · (intro w_ hSw; go_simp; try with_reducible rfl)
      simp only [Act.put, List.setIfInBounds_toArray, List.set_cons_zero, List.set_cons_succ]
      refine wpAnyP_take 19 (some 74) (v := ?_) rfl rfl (by kernel_rfl) (fun _ _ _ h => h) hH (Or.inl ⟨by rfl, ?_⟩) ?_
      rotate_left
      · (intro w_ hSw; have cS := hSw.cell; go_simp; try with_reducible rfl)
      simp only [Act.put, List.setIfInBounds_toArray, List.set_cons_zero, List.set_cons_succ]
      refine wpAnyP_take 20 (some 75) (v := ?_) rfl rfl (by kernel_rfl) (fun _ _ _ h => h) hH (Or.inl ⟨by rfl, ?_⟩) ?_
      rotate_left
      · (intro w_ hSw; go_simp; try with_reducible rfl)
      simp only [Act.put, List.setIfInBounds_toArray, List.set_cons_zero, List.set_cons_succ]
      refine wpAnyP_take 24 (some 79) (v := ?_) rfl rfl (by kernel_rfl) (fun _ _ _ h => h) hH (Or.inl ⟨by rfl, ?_⟩) ?_
      rotate_left
      · (intro w_ hSw; go_simp; try with_reducible rfl)
      simp only [Act.put, List.setIfInBounds_toArray, List.set_cons_zero, List.set_cons_succ]
      refine wpAnyP_calls 3 (some 58) rfl rfl (by kernel_rfl) (by rfl) (exec_call rfl (by rfl) (by simp only [List.map_toArray, List.map_cons, List.map_nil]; rfl) (by rfl) (enters_of Try.func8 (by kernel_rfl) rfl)) (high_any 5 1 _ (by omega)) ?_
      rintro e x1 ⟨rfl, hx1⟩
      have hH := hH.after hx1
      refine ⟨_, rfl, fun _ => hH, ?_⟩
      simp only [Act.put, List.setIfInBounds_toArray, List.set_cons_zero, List.set_cons_succ]
      refine wpAnyP_calls 7 (some 62) rfl rfl (by kernel_rfl) (by rfl) (exec_call rfl (by rfl) (by simp only [List.map_toArray, List.map_cons, List.map_nil]; rfl) (by rfl) (enters_of Try.func8 (by kernel_rfl) rfl)) (high_any 0 1 _ (by omega)) ?_
      rintro e x2 ⟨rfl, hx2⟩
      have hH := hH.after hx2
      refine ⟨_, rfl, fun _ => hH, ?_⟩
      simp only [Act.put, List.setIfInBounds_toArray, List.set_cons_zero, List.set_cons_succ]
      refine wpAnyP_take 8 (some 63) (v := ?_) rfl rfl (by kernel_rfl) (fun _ _ _ h => h) hH (Or.inl ⟨by rfl, ?_⟩) ?_
      rotate_left
      · (intro w_ hSw; go_simp; try with_reducible rfl)
      simp only [Act.put, List.setIfInBounds_toArray, List.set_cons_zero, List.set_cons_succ]
      refine wpAnyP_calls 12 (some 67) rfl rfl (by kernel_rfl) (by rfl) (exec_call rfl (by rfl) (by simp only [List.map_toArray, List.map_cons, List.map_nil]; rfl) (by rfl) (enters_of Try.func8 (by kernel_rfl) rfl)) (high_any id 4 _ (by omega)) ?_
      rintro e x3 ⟨rfl, hx3⟩
      have hH := hH.after hx3
      refine ⟨_, rfl, fun _ => hH, ?_⟩
      simp only [Act.put, List.setIfInBounds_toArray, List.set_cons_zero, List.set_cons_succ]
      refine wpAnyP_take 13 (some 68) (v := ?_) rfl rfl (by kernel_rfl) (fun _ _ _ h => h) hH (Or.inl ⟨by rfl, ?_⟩) ?_
      rotate_left
      · (intro w_ hSw; go_simp; try with_reducible rfl)
      simp only [Act.put, List.setIfInBounds_toArray, List.set_cons_zero, List.set_cons_succ]
      refine wpAnyP_calls 16 (some 71) rfl rfl (by kernel_rfl) (by rfl) (exec_call rfl (by rfl) (by simp only [List.map_toArray, List.map_cons, List.map_nil]; rfl) (by rfl) (enters_of Try.func8 (by kernel_rfl) rfl)) (high_any lsn 8 _ (by omega)) ?_
      rintro e x4 ⟨rfl, hx4⟩
      have hH := hH.after hx4
      refine ⟨_, rfl, fun _ => hH, ?_⟩
      simp only [Act.put, List.setIfInBounds_toArray, List.set_cons_zero, List.set_cons_succ]
      refine wpAnyP_take 17 (some 72) (v := ?_) rfl rfl (by kernel_rfl) (fun _ _ _ h => h) hH (Or.inl ⟨by rfl, ?_⟩) ?_
      rotate_left
      · (intro w_ hSw; go_simp; try with_reducible rfl)
      simp only [Act.put, List.setIfInBounds_toArray, List.set_cons_zero, List.set_cons_succ]
      refine wpAnyP_calls 21 (some 76) rfl rfl (by kernel_rfl) (by rfl) (exec_call rfl (by rfl) (by simp only [List.map_toArray, List.map_cons, List.map_nil]; rfl) (by rfl) (enters_of Try.func8 (by kernel_rfl) rfl)) (high_any 0 4 _ (by omega)) ?_
      rintro e x5 ⟨rfl, hx5⟩
      have hH := hH.after hx5
      refine ⟨_, rfl, fun _ => hH, ?_⟩
      simp only [Act.put, List.setIfInBounds_toArray, List.set_cons_zero, List.set_cons_succ]
      refine wpAnyP_take 22 (some 77) (v := ?_) rfl rfl (by kernel_rfl) (fun _ _ _ h => h) hH (Or.inl ⟨by rfl, ?_⟩) ?_
      rotate_left
      · (intro w_ hSw; go_simp; try with_reducible rfl)
      simp only [Act.put, List.setIfInBounds_toArray, List.set_cons_zero, List.set_cons_succ]
      refine wpAnyP_take 23 (some 78) (v := ?_) rfl rfl (by kernel_rfl) (fun _ _ _ h => h) hH (Or.inl ⟨by rfl, ?_⟩) ?_
      rotate_left
      · (intro w_ hSw; go_simp; try with_reducible rfl)
      simp only [Act.put, List.setIfInBounds_toArray, List.set_cons_zero, List.set_cons_succ]
      refine wpAnyP_take 25 (some 80) (v := ?_) rfl rfl (by kernel_rfl) (fun _ _ _ h => h) hH (Or.inl ⟨by rfl, ?_⟩) ?_
      rotate_left
      · (intro w_ hSw; go_simp; try with_reducible rfl)
      simp only [Act.put, List.setIfInBounds_toArray, List.set_cons_zero, List.set_cons_succ]
      refine wpAnyP_calls 26 (some 81) rfl rfl (by kernel_rfl) (by rfl) (exec_call rfl (by rfl) (by simp only [List.map_toArray, List.map_cons, List.map_nil]; rfl) (by rfl) (enters_of Try.func26 (by kernel_rfl) rfl)) (sealed_any _ _ (by simp [Pm.be_length]; omega)) ?_
      rintro e x6 ⟨rfl, hx6⟩
      have hH := hH.after hx6
      refine ⟨_, rfl, fun _ => hH, ?_⟩
      simp only [Act.put, List.setIfInBounds_toArray, List.set_cons_zero, List.set_cons_succ]
      refine wpAnyP_runs 27 (some 2) rfl rfl (by kernel_rfl) (by rfl) (exec_move rfl (by rfl)) (fun h => absurd h (by omega)) ?_
      simp only [Act.put, List.setIfInBounds_toArray, List.set_cons_zero, List.set_cons_succ]
      refine wpAnyP_done (by kernel_rfl) ?_ _
      go_wp2_with fail
      go_ret
      exact ⟨_, by simp [Pm.sealOf, Pm.low4, Pm.be_length]; omega, rfl, bt (bt (bt (bt (bt (bt (bd hbw4) hx1) hx2) hx3) hx4) hx5) hx6⟩
end Go.Proofs.Ytkbjmgenceghlaa
