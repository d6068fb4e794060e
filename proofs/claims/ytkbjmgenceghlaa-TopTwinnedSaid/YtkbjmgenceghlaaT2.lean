/- May pages be written twice: what 'may' answers of pages that are whole, distinct, and have a home. -/
import Derived.Test.YtkbjmgenceghlaaT1
namespace Go.Proofs.Ytkbjmgenceghlaa
open Go.RowKit
theorem take_keys {l : List (Nat × List UInt8)} (k : Nat) (hk : k < l.length) : (l.take (k + 1)).map (·.1) = (l.take k).map (·.1) ++ [(l[k]'hk).1] := by
  rw [List.take_succ_eq_append_getElem hk, List.map_append]
  rfl
theorem fresh_key {l : List (Nat × List UInt8)} (h : (l.map (·.1)).Nodup) (k : Nat) (hk : k < l.length) : (l[k]'hk).1 ∉ (l.take k).map (·.1) := by
  intro hm
  have h2 : ((l.take (k + 1)).map (·.1)).Nodup := by
    rw [List.map_take]
    exact List.Nodup.sublist (List.take_sublist _ _) h
  rw [take_keys k hk, List.nodup_append] at h2
  exact h2.2.2 _ hm _ (by simp) rfl
set_option maxRecDepth 100000 in
set_option maxHeartbeats 2000000 in
theorem twinmay_yes (at_ bs : Nat) (l : List (Nat × List UInt8)) (hv : Value) (w : World) (base d : Nat) (D : Pm.Dk) (h : IsDisk w base d D) (hb0 : Nat) (hl : HomesAt hb0 w hv l)
    (h1 : at_ + 33 ≤ bs) (hn1 : 1 ≤ l.length) (hn8 : l.length ≤ 8) (hbytes : ∀ x ∈ l, x.2.length = 512) (hpg : ∀ x ∈ l, bs + x.1 * 4 + 4 ≤ D.sure.length) (hnd : (l.map (·.1)).Nodup) :
    Calls Try.prog 31 #[.pointer (some ⟨d, 0, none⟩), .int .i64 at_, .int .i64 bs, hv] w fun e w' => e = .returned (.bool true) ∧ Below w.heap.size w w' := by
  have HI := Lib.hid (fun W (hW : Below w.heap.size w W) p hp => inside_yes at_ bs p W base d D (h.below hW) hp h1)
  have hbd := h.ok.bound
  clear h h1
  obtain ⟨p, c, rfl⟩ := hl.shape
  obtain ⟨n, hn⟩ : ∃ n, n = l.length := ⟨_, rfl⟩
  have HN := Lib.hid hn
  rw [← hn] at hn1 hn8 ⊢
  have hm := @run_makeMap Try.prog
  have d8 : decide ((n : Int) ≤ 8) = true := by simp; omega
  clear hn
  go_enter Try.func31, Try.ntmps31
  go_wp2_with fail
  have hM : SeenAt (w.alloc (.map #[] 0)) w.heap.size 0 [] := ⟨.map [], World.ownsMap_made _ _ _ _, fun _ _ _ => rfl⟩
  have hB0 := ba (Below.refl w.heap.size w) (.map #[] 0)
  go_loopw [15] (fun i wr => ∃ k : Nat, k ≤ n ∧ i = .int .i64 k ∧ SeenAt wr w.heap.size k ((l.take k).map (·.1)) ∧ Below w.heap.size w wr) (fun i _ => n - (intOf i).toNat)
  case atStart => exact ⟨0, by omega, rfl, by simpa using hM, hB0⟩
  case round =>
    clear hM hB0 hm
    obtain ⟨k, hk, rfl, hM, hb⟩ := hrel
    by_cases hlt : k < n
    · have hkl : k < l.length := by have := HN.out; omega
      obtain ⟨g, c', e, hgl, hc0, hc1⟩ := (hl.below hb).get k hkl
      injection e with e1 e2 e3
      subst e1 e3
      clear e2
      have hx1 := hbytes _ (List.getElem_mem hkl)
      have hx2 := hpg _ (List.getElem_mem hkl)
      have hx3 := fresh_key hnd k hkl
      obtain ⟨x, hx⟩ : ∃ x, x = l[k]'hkl := ⟨_, rfl⟩
      rw [← hx] at hc0 hc1 hx1 hx2 hx3
      have HK := take_keys k hkl
      rw [← hx] at HK
      replace HK := Lib.hid HK
      clear hx
      obtain ⟨D', hO, hD'⟩ := hM
      have hO2 := hO.alloc (.cells #[.int .u32 x.1, .string ⟨x.2.toArray⟩] 47)
      have hlook := SeenAt.look ⟨D', hO2, hD'⟩ x.1 (by omega) hx3
      have hsz : ((x.2.length : Int) != 512) = false := by rw [hx1]; rfl
      have hkey := Maps.keyOf_int_mk Try.underlying37 (u32_wf x.1 (by omega))
      have hb2 := ba hb (.cells #[.int .u32 x.1, .string ⟨x.2.toArray⟩] 47)
      have HI2 := Lib.hid (HI.out _ hb2 x.1 hx2)
      clear hx2 hx3 hx1
      go_wp2_with fail
      refine (HI2.out).mono ?_
      rintro e w1 ⟨rfl, rfl⟩
      have cB := (Blk.new wr 47 #[.int .u32 x.1, .string ⟨x.2.toArray⟩]).cell
      clear hlook
      go_wp2_with (at_mapUpdate; refine wpList_mapUpdate_own _ rfl _ _ _ 105 rfl 37 4 (Maps.int_keyed Try.underlying37) Try.underlying105 _ w.heap.size k D' rfl hO2 (by unfold maxLen; omega) _ _ _ rfl rfl hkey _ [] (plainElem_bool Try.underlying4 true) ?_; intro w2 ho3 hgr3)
      have hM3 := SeenAt.put hD' x.1 ho3
      clear hO hO2 hD'
      go_roundw
      case rel => exact ⟨k + 1, by omega, by go_num, by rw [HK.out]; exact hM3, hb2.grown hgr3 hb2.size (fun r e => by cases e; exact Nat.le_refl _)⟩
      case measure => simp [intOf]; omega
    · go_wp2_with fail
      go_ret
      exact ⟨rfl, hb⟩
end Go.Proofs.Ytkbjmgenceghlaa
