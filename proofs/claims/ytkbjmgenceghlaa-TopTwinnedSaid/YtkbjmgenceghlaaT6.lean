/- A mark that is set: what 'mark' answers; a page off the disk: 'Read'. -/
import Derived.Test.YtkbjmgenceghlaaT5
namespace Go.Proofs.Ytkbjmgenceghlaa
open Go.RowKit
attribute [local go_sem ↓] add_short
namespace Pm
/-- how many pages, and which -/
def headK (n : Nat) (ids : List Nat) : List UInt8 := [1, UInt8.ofNat n] ++ ids.flatMap fun p => be p 4
theorem headK_rows (f : Nat → List UInt8) {size : Nat} (l : List Nat) (h : ∀ x ∈ l, (f x).length = size) : (l.flatMap f).length = l.length * size := by
  induction l with
  | nil => simp
  | cons x l ih => rw [List.flatMap_cons, List.length_append, ih (fun y hy => h y (by simp [hy])), h x (by simp), List.length_cons, Nat.succ_mul]; omega
theorem headK_len (n : Nat) (ids : List Nat) : (headK n ids).length = 2 + ids.length * 4 := by
  unfold headK
  rw [List.length_append, headK_rows (size := 4) (f := fun p => be p 4) ids (fun x _ => be_length x 4)]
  rfl
theorem headK_snoc (n : Nat) (ids : List Nat) (p : Nat) : headK n (ids ++ [p]) = headK n ids ++ be p 4 := by
  unfold headK
  rw [List.flatMap_append]
  simp
/-- a mark -/
def markOf (ids : List Nat) : List UInt8 := fill (headK ids.length ids) 128
end Pm
theorem run_byte2 (w : World) (a b : Int) :
    (convert 69 9 (.slice (some ⟨w.heap.size, 0, none⟩) 2 2)).run Try.prog (w.alloc (.cells #[.int .u8 a, .int .u8 b] 5)) = .ok (.string ⟨[UInt8.ofNat a.toNat, UInt8.ofNat b.toNat].toArray⟩) (w.alloc (.cells #[.int .u8 a, .int .u8 b] 5)) := by
  have h := run_convert_bytes_arg (P := Try.prog) (w.alloc (.cells #[.int .u8 a, .int .u8 b] 5)) 69 5 Try.underlying69 Try.underlying5 w.heap.size 0 2 2 [a, b] rfl (fun i hi => by
    rw [World.cell?_alloc_mark]
    obtain rfl | rfl : i = 0 ∨ i = 1 := by omega
    all_goals rfl) 9 Try.underlying9
  rw [h]
  rfl
set_option maxRecDepth 100000 in
set_option maxHeartbeats 2000000 in
theorem mark_any (l : List (Nat × List UInt8)) (hv : Value) (w : World) (hb0 : Nat) (hl : HomesAt hb0 w hv l) (hn8 : l.length ≤ 8) (hpg : ∀ x ∈ l, x.1 < 4294967296) :
    Calls Try.prog 34 #[hv] w fun e w' => e = .returned (.string ⟨(Pm.markOf (l.map (·.1))).toArray⟩) ∧ Below w.heap.size w w' := by
  obtain ⟨p, c, rfl⟩ := hl.shape
  obtain ⟨n, hn⟩ : ∃ n, n = l.length := ⟨_, rfl⟩
  have HN := Lib.hid hn
  rw [← hn] at hn8 ⊢
  clear hn
  have hcv := run_byte2
  have hw8 : IntKind.u8.wrap (n : Int) = n := IntWalk.u8_in _ (by omega)
  go_enter Try.func34, Try.ntmps34
  go_wp2_with fail
  have hb1 := ba (Below.refl w.heap.size w) (.cells #[.int .u8 1, .int .u8 n] 5)
  have hh : [UInt8.ofNat (Int.toNat 1), UInt8.ofNat (Int.toNat n)] = Pm.headK n [] := rfl
  go_loopw [3, 15] (fun s i wr => ∃ k : Nat, k ≤ n ∧ i = .int .i64 k ∧ s = .string ⟨(Pm.headK n ((l.take k).map (·.1))).toArray⟩ ∧ Below w.heap.size w wr) (fun _ i _ => n - (intOf i).toNat)
  case atStart => exact ⟨0, by omega, rfl, rfl, hb1⟩
  case round =>
    clear hb1 hcv hw8 hh
    obtain ⟨k, hk, rfl, rfl, hb⟩ := hrel
    by_cases hlt : k < n
    · have hkl : k < l.length := by have := HN.out; omega
      obtain ⟨g, c', e, hgl, hc0, hc1⟩ := (hl.below hb).get k hkl
      injection e with e1 e2 e3
      subst e1 e3
      clear e2
      have hx2 := hpg _ (List.getElem_mem hkl)
      have HS := take_keys k hkl
      obtain ⟨x, hx⟩ : ∃ x, x = l[k]'hkl := ⟨_, rfl⟩
      rw [← hx] at hc0 hc1 hx2 HS
      clear hx
      have hln := Pm.headK_len n ((l.take k).map (·.1))
      rw [List.length_map, List.length_take] at hln
      obtain ⟨A, hA⟩ : ∃ A, A = Pm.headK n ((l.take k).map (·.1)) := ⟨_, rfl⟩
      have hA2 : Pm.headK n ((l.take (k + 1)).map (·.1)) = A ++ Pm.be x.1 4 := by rw [HS, Pm.headK_snoc, hA]
      rw [← hA] at hln ⊢
      have hsA : Short A 100 := ⟨by omega⟩
      replace hA2 := Lib.hid hA2
      clear hA hln HS
      have hb2 := ba hb (.cells #[.int .u32 x.1, .string ⟨x.2.toArray⟩] 47)
      go_wp2_with fail
      refine (put_yes x.1 4 _ (by omega) (by omega) (by simpa using hx2)).mono ?_
      rintro e w2 ⟨rfl, hb3⟩
      go_wp2_with fail
      go_roundw
      case rel => exact ⟨k + 1, by omega, by go_num, by rw [hA2.out], bt hb2 hb3⟩
      case measure => simp [intOf]; omega
    · obtain rfl : k = n := by omega
      have hall : l.take k = l := List.take_of_length_le (by have := HN.out; omega)
      rw [hall]
      have hln := Pm.headK_len k (l.map (·.1))
      rw [List.length_map, ← HN.out] at hln
      obtain ⟨A, hA⟩ : ∃ A, A = Pm.headK k (l.map (·.1)) := ⟨_, rfl⟩
      have hfin : Pm.markOf (l.map (·.1)) = Pm.sealOf (A ++ Pm.zeros (122 - k * 4)) := by
        unfold Pm.markOf Pm.fill
        rw [List.length_map, ← HN.out, ← hA]
        rw [← hA] at hln
        rw [hln, show 128 - 4 - (2 + k * 4) = 122 - k * 4 by omega]
      rw [← hA] at hln ⊢
      have hsA : Short A 100 := ⟨by omega⟩
      have hsZ : Short (Pm.zeros (122 - k * 4)) 200 := ⟨by rw [Pm.zeros_length]; omega⟩
      have HS := Lib.hid (fun W => seal_any (A ++ Pm.zeros (122 - k * 4)) W (by rw [List.length_append, Pm.zeros_length]; omega))
      obtain ⟨z, hz⟩ : ∃ z : Nat, z = 122 - k * 4 := ⟨_, rfl⟩
      have hwz : IntKind.i64.wrap (124 - (A.length : Int)) = (z : Int) := by rw [IntWalk.i64_in _ (by omega)]; omega
      rw [← hz] at hfin HS hsZ
      have hm1 := run_make_zero z wr (by omega)
      have hm2 := run_zero_string z wr (by omega)
      have HF := Lib.hid hfin
      clear hA hall hln hfin hz
      go_wp2_with fail
      refine (HS.out _).mono ?_
      rintro e w2 ⟨rfl, hb2⟩
      go_wp2_with fail
      go_ret
      exact ⟨by rw [HF.out]; rfl, bt (ba hb _) hb2⟩
namespace Pm
/-- sector k -/
def sec (u : List (List UInt8)) (k : Nat) : List UInt8 := u[k]?.getD []
/-- the sectors of a page -/
def pageN (u : List (List UInt8)) (b : Nat) (q : Nat) : List UInt8 := (List.range q).flatMap fun k => sec u (b + k)
def pageAt (u : List (List UInt8)) (b : Nat) : List UInt8 := pageN u b 4
theorem pageN_succ (u : List (List UInt8)) (b q : Nat) : pageN u b (q + 1) = pageN u b q ++ sec u (b + q) := by
  unfold pageN
  rw [List.range_succ, List.flatMap_append]
  simp
theorem pageN_len (u : List (List UInt8)) (hu : ∀ s ∈ u, s.length = 128) (b : Nat) : ∀ q, (pageN u b q).length ≤ q * 128
  | 0 => by simp [pageN]
  | q + 1 => by
    rw [pageN_succ, List.length_append]
    have := pageN_len u hu b q
    have h2 : (sec u (b + q)).length ≤ 128 := by
      unfold sec
      cases h : u[b + q]? with
      | none => simp
      | some s => simp [hu s (List.mem_of_getElem? h)]
    omega
end Pm
set_option maxRecDepth 100000 in
set_option maxHeartbeats 2000000 in
theorem page_read (bs p : Nat) (w : World) (base d : Nat) (D : Pm.Dk) (h : IsDisk w base d D) (h0 : D.fuse ≠ 0) (hl : D.loose = []) (hp : bs + p * 4 + 4 ≤ D.sure.length) :
    Calls Try.prog 19 #[.pointer (some ⟨d, 0, none⟩), .int .i64 bs, .int .u32 p] w fun e w' => e = .returned (.tuple #[.string ⟨(Pm.pageAt D.sure (bs + p * 4)).toArray⟩, .int .i64 0]) ∧ Below w.heap.size w w' := by
  have HN := Lib.hid (len_any w base d D h)
  have HR := Lib.hid (fun W (hW : Below w.heap.size w W) k hk => read_yes k W base d D (h.below hW) h0 hl hk)
  have hbd := h.ok.bound
  have hsec := h.ok.secs
  clear h h0 hl
  obtain ⟨m, hm⟩ : ∃ m, m = D.sure.length := ⟨_, rfl⟩
  rw [← hm] at HN hbd hp
  have HM := Lib.hid hm
  clear hm
  have hw1 : IntKind.i64.wrap ((m : Int) - 4) = (m : Int) - 4 := IntWalk.i64_in _ (by omega)
  have d1 : decide (m < bs) = false := by simp; omega
  have d2 : decide ((m : Int) - 4 < (bs : Int) + (p : Int) * 4) = false := by simp; omega
  go_enter Try.func19, Try.ntmps19
  go_wp2_with fail
  refine (HN.out).mono ?_
  rintro e w1 ⟨rfl, rfl⟩
  go_wp2_with fail
  refine (HN.out).mono ?_
  rintro e w1 ⟨rfl, rfl⟩
  go_wp2_with fail
  clear HN hw1 d1 d2
  go_loopw [8, 31] (fun s i wr => ∃ k : Nat, k ≤ 4 ∧ i = .int .i64 k ∧ s = .string ⟨(Pm.pageN D.sure (bs + p * 4) k).toArray⟩ ∧ Below w.heap.size w wr) (fun _ i _ => 4 - (intOf i).toNat)
  case atStart => exact ⟨0, by omega, rfl, rfl, Below.refl _ _⟩
  case round =>
    obtain ⟨k, hk, rfl, rfl, hb⟩ := hrel
    by_cases hlt : k < 4
    · have hkm : bs + p * 4 + k < D.sure.length := by have := HM.out; omega
      have HRk := HR.out _ hb _ hkm
      have hS := Pm.pageN_succ D.sure (bs + p * 4) k
      have hsk : Pm.sec D.sure (bs + p * 4 + k) = D.sure[bs + p * 4 + k]'hkm := by unfold Pm.sec; rw [List.getElem?_eq_getElem hkm]; rfl
      rw [← hsk] at HRk
      have hA1 := Pm.pageN_len D.sure hsec (bs + p * 4) k
      have hB1 : (Pm.sec D.sure (bs + p * 4 + k)).length = 128 := by rw [hsk]; exact hsec _ (List.getElem_mem hkm)
      clear hsk
      obtain ⟨A, hA⟩ : ∃ A, A = Pm.pageN D.sure (bs + p * 4) k := ⟨_, rfl⟩
      obtain ⟨B, hB⟩ : ∃ B, B = Pm.sec D.sure (bs + p * 4 + k) := ⟨_, rfl⟩
      rw [← hA] at hS hA1 ⊢
      rw [← hB] at hS HRk hB1
      have hsA : Short A 1000 := ⟨by omega⟩
      have hsB : Short B 1000 := ⟨by omega⟩
      replace hS := Lib.hid hS
      replace HRk := Lib.hid HRk
      have d4 : decide ((k : Int) < 4) = true := by simp; omega
      clear hA hB hA1 hB1
      go_wp2_with fail
      refine (HRk.out).mono ?_
      rintro e w2 ⟨rfl, hb2⟩
      go_wp2_with fail
      go_roundw
      case rel => exact ⟨k + 1, by omega, by go_num, by rw [hS.out], bt hb hb2⟩
      case measure => simp [intOf]; omega
    · obtain rfl : k = 4 := by omega
      go_wp2_with fail
      go_ret2
      exact ⟨rfl, hb⟩
end Go.Proofs.Ytkbjmgenceghlaa
