/- What 'New' answers. -/
import Derived.Test.YtkbjmgenceghlaaD2
import Derived.Laws.MakeOwn
namespace Go.Proofs.Ytkbjmgenceghlaa
open Go.RowKit
theorem info_of {o : Option TypeInfo} {a b c : Nat} {C : Array Value} (h : o.bind (fun i => i.zero.bind fun z => some (i.size, i.bytes, z.cells)) = some (a, b, C)) : ∃ i z, o = some i ∧ i.zero = some z ∧ i.size = a ∧ i.bytes = b ∧ z.cells = C := by
  cases o with
  | none => cases h
  | some i =>
    cases hz : i.zero with
    | none => simp [hz] at h
    | some z =>
      simp [hz] at h
      exact ⟨i, z, rfl, hz, h.1, h.2.1, h.2.2⟩
theorem info_size {o : Option TypeInfo} {a b c : Nat} (h : o.bind (fun i => i.zero.bind fun z => some (i.size, i.bytes, z.cells.size)) = some (a, b, c)) : ∃ i z, o = some i ∧ i.zero = some z ∧ i.size = a ∧ i.bytes = b ∧ z.cells.size = c := by
  cases o with
  | none => cases h
  | some i =>
    cases hz : i.zero with
    | none => simp [hz] at h
    | some z =>
      simp [hz] at h
      exact ⟨i, z, rfl, hz, h.1, h.2.1, h.2.2⟩
theorem info91 : ∃ i z, Try.prog.info? 91 = some i ∧ i.zero = some z ∧ i.size = 128 ∧ i.bytes = 128 ∧ z.cells = (List.replicate 128 (Value.int .u8 0)).toArray := info_of (c := 0) (by kernel_rfl)
theorem info93 : ∃ i z, Try.prog.info? 93 = some i ∧ i.zero = some z ∧ i.size = 129 ∧ i.bytes = 136 ∧ z.cells.size = 129 := info_size (by kernel_rfl)
theorem sure_zero (n : Nat) : sureCells (List.replicate n (List.replicate 128 0)) = List.replicate (n * 128) (Value.int .u8 0) := by
  unfold sureCells secCells
  induction n with
  | zero => simp
  | succ n ih =>
    rw [List.replicate_succ, List.flatMap_cons, ih, List.map_replicate, show (Value.int .u8 ((UInt8.toNat 0 : Nat) : Int)) = Value.int .u8 0 from rfl, List.replicate_append_replicate]
    congr 1
    omega
theorem made_zero (m : Nat) (z : Array Value) (hz : z = (List.replicate 128 (Value.int .u8 0)).toArray) : (madeCells z m).toList = List.replicate m (Value.int .u8 0) := by
  have hall : ∀ i : Nat, z[i % z.size]! = Value.int .u8 0 := fun i => by
    have hlt : i % z.size < z.size := Nat.mod_lt _ (by rw [hz]; simp)
    rw [getElem!_pos z _ hlt]
    have h : z[i % z.size]? = some (Value.int .u8 0) := by
      have h2 : i % z.size < 128 := by rw [hz] at hlt ⊢; simpa using hlt
      generalize i % z.size = k at h2
      rw [hz, List.getElem?_toArray, List.getElem?_replicate, if_pos h2]
    rw [Array.getElem?_eq_getElem hlt] at h
    injection h
  apply List.ext_getElem
  · simp [madeCells]
  · intro i h1 h2
    simp only [madeCells, Array.getElem_toList, Array.getElem_map, Array.getElem_range, List.getElem_replicate]
    exact hall i
set_option maxRecDepth 100000 in
set_option maxHeartbeats 1000000 in
theorem new_any (n : Nat) (w : World) (base : Nat) (hb : base ≤ w.heap.size) (h1 : 1 ≤ n) (h2 : n ≤ 16384) :
    Calls Try.prog 4 #[.int .i64 n] w fun e w' => ∃ d, e = .returned (.tuple #[.pointer (some ⟨d, 0, none⟩), .int .i64 0]) ∧ IsDisk w' base d ⟨List.replicate n (List.replicate 128 0), [], -1⟩ ∧ Below w.heap.size w w' := by
  have d1 : decide ((n : Int) < 1) = false := by simp; omega
  have d2 : decide (16384 < (n : Int)) = false := by simp; omega
  obtain ⟨i, z, hi, hz, hs, hby, hzc⟩ := info91
  have hmk := run_make (P := Try.prog) w 60 91 i z Try.underlying60 hi hz .i64 .i64 n n (by omega) (Int.le_refl _) (by rw [hby]; omega) (by omega)
  rw [Int.toNat_natCast, hs] at hmk
  have hrow : (madeCells z.cells (n * 128)).toList = sureCells (List.replicate n (List.replicate 128 0)) := by rw [sure_zero, made_zero _ _ hzc]
  generalize madeCells z.cells (n * 128) = C at *
  have hCs : C.size = n * 128 := by
    have := congrArg List.length hrow
    rw [sure_zero] at this
    simpa using this
  have hA := Blk.new w 91 C
  have hD := Blk.new (w.alloc (.cells C 91)) 63 #[.slice (some ⟨w.heap.size, 0, none⟩) n n, .slice none 0 0, .int .i64 (-1)]
  have hA2 := hA.alloc (.cells #[.slice (some ⟨w.heap.size, 0, none⟩) n n, .slice none 0 0, .int .i64 (-1)] 63)
  have hb2 : Below w.heap.size w ((w.alloc (.cells C 91)).alloc (.cells #[.slice (some ⟨w.heap.size, 0, none⟩) n n, .slice none 0 0, .int .i64 (-1)] 63)) := ba (ba (Below.refl _ _) _) _
  have hlen : (List.replicate n (List.replicate 128 (0 : UInt8))).length = n := by simp
  have HF : IsDisk ((w.alloc (.cells C 91)).alloc (.cells #[.slice (some ⟨w.heap.size, 0, none⟩) n n, .slice none 0 0, .int .i64 (-1)] 63)) base (w.alloc (.cells C 91)).heap.size ⟨List.replicate n (List.replicate 128 0), [], -1⟩ := by
    refine ⟨⟨by simpa using h1, by simpa using h2, (fun s hs => by rw [List.eq_of_mem_replicate hs]; simp), (fun x hx => by cases hx), by simp, by simp, by simp⟩, w.heap.size, .slice none 0 0, by simp; omega, ?_, ?_, World.ownsRow_nil _ _ _ _⟩
    · simpa only [hlen] using hD
    · simp only [hlen]
      refine ⟨by rw [sure_zero]; simp, .inr ⟨w.heap.size, n, C, rfl, hb, hA2, Nat.le_refl _, by simp [maxLen]; omega, hCs, ?_⟩⟩
      rw [← hrow, List.take_of_length_le (by simp [hCs])]
  clear hzc hi hz hA hA2 hD hrow
  go_enter Try.func4, Try.ntmps4
  go_wp2_with fail
  go_ret2
  exact ⟨_, rfl, by simpa using HF, hb2⟩
end Go.Proofs.Ytkbjmgenceghlaa
