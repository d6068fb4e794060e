/- Is a page among pages; a mark by hand: what 'Index', 'Contains' and 'marked' answer. -/
import Derived.Test.YtkbjmgenceghlaaU1
namespace Go.Proofs.Ytkbjmgenceghlaa
open Go.RowKit
attribute [local go_sem ↓] add_short
def idCell (p : Nat) : Value := .int .u32 (p : Int)
/-- pages' numbers, in a slice -/
def IdsAt (base : Nat) (w : World) (v : Value) (ids : List Nat) : Prop := w.ownsRow base 37 1 v ids.length (ids.map idCell)
theorem IdsAt.below {base : Nat} {w w' : World} {v : Value} {l : List Nat} (h : IdsAt base w v l) (hb : Below w.heap.size w w') : IdsAt base w' v l :=
  World.ownsRow.kept (row := none) h ⟨hb.os, hb.tape, hb.output, hb.size, fun k hk _ => hb.block k hk⟩ (by cases v.ownBlock <;> simp)
theorem IdsAt.shape {base : Nat} {w : World} {v : Value} {l : List Nat} (h : IdsAt base w v l) : ∃ p c, v = .slice p l.length c := by
  rcases h.2 with ⟨h1, h2⟩ | ⟨g, cap, cur, h1, _⟩
  · rw [h2]; exact ⟨_, _, h1⟩
  · exact ⟨_, _, h1⟩
theorem IdsAt.get {base : Nat} {w : World} {v : Value} {l : List Nat} (h : IdsAt base w v l) (k : Nat) (hk : k < l.length) : ∃ g c, v = .slice (some ⟨g, 0, none⟩) l.length c ∧ w.cell? ⟨g, k, none⟩ = some (.int .u32 ((l[k]'hk : Nat) : Int)) := by
  obtain ⟨g, c, e, hc⟩ := owns_get h k (by simpa using hk)
  exact ⟨g, c, e, by simpa [idCell] using hc⟩
set_option maxRecDepth 100000 in
set_option maxHeartbeats 1000000 in
theorem index_any (ids : List Nat) (p : Nat) (v : Value) (w : World) (b0 : Nat) (h : IdsAt b0 w v ids) (hn : ids.length ≤ 1000) :
    Calls Try.prog 27 #[v, .int .u32 p] w fun e w' => (∃ i : Int, e = .returned (.int .i64 i) ∧ (decide (0 ≤ i)) = decide (p ∈ ids)) ∧ w = w' := by
  obtain ⟨q, c, rfl⟩ := h.shape
  obtain ⟨n, hn'⟩ : ∃ n, n = ids.length := ⟨_, rfl⟩
  rw [← hn'] at hn ⊢
  have HN := Lib.hid hn'
  clear hn'
  go_enter Try.func27, Try.ntmps27
  go_wp2_with fail
  go_loop [8] (fun i => ∃ k : Nat, k ≤ n ∧ i = .int .i64 k ∧ Hid (p ∉ ids.take k)) (fun i => n - (intOf i).toNat)
  case atStart => exact ⟨0, by omega, rfl, Lib.hid (by simp)⟩
  case round =>
    obtain ⟨k, hk, rfl, HP⟩ := hrel
    by_cases hlt : k < n
    · have hkl : k < ids.length := by have := HN.out; omega
      obtain ⟨g, c', e, hcell⟩ := h.get k hkl
      injection e with e1 e2 e3
      subst e1 e3
      clear e2
      have hsn : ids.take (k + 1) = ids.take k ++ [ids[k]'hkl] := List.take_succ_eq_append_getElem hkl
      have hmem : ids[k]'hkl ∈ ids := List.getElem_mem hkl
      obtain ⟨x, hx⟩ : ∃ x, x = ids[k]'hkl := ⟨_, rfl⟩
      rw [← hx] at hcell hsn hmem
      have HS := Lib.hid hsn
      have HM := Lib.hid hmem
      clear hx hsn hmem
      by_cases hpx : p = x
      · subst hpx
        go_wp2_with fail
        go_ret
        exact ⟨⟨k, rfl, by simp [HM.out]⟩, rfl⟩
      · have hb : ((p : Int) == (x : Int)) = false := beq_eq_false_iff_ne.2 (by omega)
        have hpn : p ∉ ids.take (k + 1) := by rw [HS.out]; simp; exact ⟨HP.out, hpx⟩
        replace hpn := Lib.hid hpn
        clear hpx
        go_wp2_with fail
        go_round
        case rel => exact ⟨k + 1, by omega, by go_num, hpn⟩
        case measure => simp [intOf]; omega
    · have hall : ids.take k = ids := List.take_of_length_le (by have := HN.out; omega)
      go_wp2_with fail
      go_ret
      refine ⟨⟨-1, rfl, ?_⟩, rfl⟩
      have := HP.out
      rw [hall] at this
      simp [this]
set_option maxRecDepth 100000 in
set_option maxHeartbeats 1000000 in
theorem contains_any (ids : List Nat) (p : Nat) (v : Value) (w : World) (b0 : Nat) (h : IdsAt b0 w v ids) (hn : ids.length ≤ 1000) :
    Calls Try.prog 10 #[v, .int .u32 p] w fun e w' => e = .returned (.bool (decide (p ∈ ids))) ∧ w = w' := by
  have HI := Lib.hid (index_any ids p v w b0 h hn)
  obtain ⟨q, c, rfl⟩ := h.shape
  clear h hn
  obtain ⟨b, hb⟩ : ∃ b, b = decide (p ∈ ids) := ⟨_, rfl⟩
  rw [← hb] at HI ⊢
  clear hb
  go_enter Try.func10, Try.ntmps10
  go_wp2_with fail
  refine (HI.out).mono ?_
  rintro e w1 ⟨⟨i, rfl, hi⟩, rfl⟩
  cases b
  all_goals
    go_wp2_with fail
    go_ret
    exact ⟨rfl, rfl⟩
set_option maxRecDepth 100000 in
set_option maxHeartbeats 1000000 in
theorem marked_any (ids : List Nat) (v : Value) (w : World) (b0 : Nat) (h : IdsAt b0 w v ids) (hn : ids.length ≤ 8) (hp : ∀ p ∈ ids, p ≤ 20000) :
    Calls Try.prog 7 #[v] w fun e w' => e = .returned (.string ⟨(Pm.markOf ids).toArray⟩) ∧ Below w.heap.size w w' := by
  obtain ⟨q, c, rfl⟩ := h.shape
  obtain ⟨n, hn'⟩ : ∃ n, n = ids.length := ⟨_, rfl⟩
  rw [← hn'] at hn ⊢
  have HN := Lib.hid hn'
  have hmk : Pm.markOf ids = Pm.fill (Pm.headK n ids) 128 := by rw [hn']; rfl
  have hhl := Pm.headK_len n ids
  rw [← hn'] at hhl
  rw [hmk]
  clear hmk hn'
  go_enter Try.func7, Try.ntmps7
  go_wp2_with fail
  refine (high_any n 1 _ (by omega)).mono ?_
  rintro e w1 ⟨rfl, hb1⟩
  have hbe : Pm.be n 1 = [UInt8.ofNat n] := by simp [Pm.be]
  rw [hbe]
  go_wp2_with fail
  go_loopw [3, 13] (fun s i wr => ∃ k : Nat, k ≤ n ∧ i = .int .i64 k ∧ s = .string ⟨(Pm.headK n (ids.take k)).toArray⟩ ∧ Below w.heap.size w wr) (fun _ i _ => n - (intOf i).toNat)
  case atStart => exact ⟨0, by omega, rfl, rfl, hb1⟩
  case round =>
    clear hb1 hbe
    obtain ⟨k, hk, rfl, rfl, hb⟩ := hrel
    by_cases hlt : k < n
    · have hkl : k < ids.length := by have := HN.out; omega
      obtain ⟨g, c', e, hcell⟩ := (h.below hb).get k hkl
      injection e with e1 e2 e3
      subst e1 e3
      clear e2
      have hsn : ids.take (k + 1) = ids.take k ++ [ids[k]'hkl] := List.take_succ_eq_append_getElem hkl
      have hxb := hp _ (List.getElem_mem hkl)
      obtain ⟨x, hx⟩ : ∃ x, x = ids[k]'hkl := ⟨_, rfl⟩
      rw [← hx] at hcell hsn hxb
      have hln := Pm.headK_len n (ids.take k)
      rw [List.length_take] at hln
      obtain ⟨A, hA⟩ : ∃ A, A = Pm.headK n (ids.take k) := ⟨_, rfl⟩
      have hA2 : Pm.headK n (ids.take (k + 1)) = A ++ Pm.be x 4 := by rw [hsn, Pm.headK_snoc, hA]
      rw [← hA] at hln ⊢
      have hsA : Short A 100 := ⟨by omega⟩
      replace hA2 := Lib.hid hA2
      clear hA hln hsn hx
      go_wp2_with fail
      refine (high_any x 4 _ (by omega)).mono ?_
      rintro e w2 ⟨rfl, hb2⟩
      go_wp2_with fail
      go_roundw
      case rel => exact ⟨k + 1, by omega, by go_num, by rw [hA2.out], bt hb hb2⟩
      case measure => simp [intOf]; omega
    · have hall : ids.take k = ids := List.take_of_length_le (by have := HN.out; omega)
      rw [hall]
      obtain ⟨A, hA⟩ : ∃ A, A = Pm.headK n ids := ⟨_, rfl⟩
      have HF := Lib.hid (fun W => filled_any A 128 W (by rw [hA]; omega) (by omega))
      have HA := Lib.hid hA
      rw [← hA]
      clear hA hall hhl
      go_wp2_with fail
      refine (HF.out _).mono ?_
      rintro e w2 ⟨rfl, hb2⟩
      go_wp2_with fail
      go_ret
      exact ⟨by rw [← HA.out]; rfl, bt hb hb2⟩
end Go.Proofs.Ytkbjmgenceghlaa
