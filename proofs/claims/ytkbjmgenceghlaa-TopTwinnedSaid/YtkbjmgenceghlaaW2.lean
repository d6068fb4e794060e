/- A number read out of a text: what the code answers, as lemmas for every input that their premises allow; a part of the proof of TopTwinned. -/
import Derived.Test.YtkbjmgenceghlaaW1
namespace Go.Proofs.Ytkbjmgenceghlaa
open Go.RowKit
theorem run_str_cut (l : List UInt8) (a s : Nat) (h : a + s ≤ l.length) (w : World) :
    (Instr.slice 9 (.string ⟨l.toArray⟩) (some (.int .i64 (a : Int))) (some (.int .i64 ((a : Int) + (s : Int)))) none).run Try.prog w = .ok (.string ⟨((l.drop a).take s).toArray⟩) w := by
  have hsz : (ByteArray.mk l.toArray).size = l.length := by simp [ByteArray.size]
  rw [run_slice_string w 9 _ _ _ _ _ Try.underlying9 (by omega) (by omega) (by rw [hsz]; omega), ByteArray.extract_mk]
  rw [show ((a : Int) + (s : Int)).toNat - (a : Int).toNat = s by omega, Int.toNat_natCast]
set_option maxRecDepth 100000 in
set_option maxHeartbeats 400000 in
theorem cut_yes (l : List UInt8) (at_ size : Nat) (w : World) (hl : l.length ≤ 1000000) (h : at_ + size ≤ l.length) :
    Calls Try.prog 57 #[.string ⟨l.toArray⟩, .int .i64 at_, .int .i64 size] w fun e w' => e = .returned (.tuple #[.string ⟨((l.drop at_).take size).toArray⟩, .bool true]) ∧ w = w' := by
  have d1 : decide ((at_ : Int) < 0) = false := by simp
  have d2 : decide ((size : Int) < 0) = false := by simp
  have d3 : decide (l.length < at_) = false := by simp; omega
  have d4 : decide ((l.length : Int) - at_ < size) = false := by simp; omega
  have hsl := run_str_cut l at_ size h
  go_enter Try.func57, Try.ntmps57
  go_wp2
  go_ret2
  exact ⟨rfl, rfl⟩
set_option maxRecDepth 100000 in
set_option maxHeartbeats 400000 in
theorem cut_no (l : List UInt8) (at_ size : Nat) (w : World) (hl : l.length ≤ 1000000) (ha : at_ ≤ 4000000000000) (hs : size ≤ 1000000) (h : l.length < at_ + size) :
    Calls Try.prog 57 #[.string ⟨l.toArray⟩, .int .i64 at_, .int .i64 size] w fun e w' => e = .returned (.tuple #[.string ⟨#[]⟩, .bool false]) ∧ w = w' := by
  have d1 : decide ((at_ : Int) < 0) = false := by simp
  have d2 : decide ((size : Int) < 0) = false := by simp
  by_cases hat : at_ ≤ l.length
  · have d3 : decide (l.length < at_) = false := by simp; omega
    have d4 : decide ((l.length : Int) - at_ < size) = true := by simp; omega
    go_enter Try.func57, Try.ntmps57
    go_wp2
    go_ret2
    exact ⟨rfl, rfl⟩
  · have d3 : decide (l.length < at_) = true := by simp; omega
    go_enter Try.func57, Try.ntmps57
    go_wp2
    go_ret2
    exact ⟨rfl, rfl⟩
theorem run_put_tail (size : Nat) (h1 : 1 ≤ size) (hs : size ≤ 8) (g : Nat) (w : World) :
    (Instr.sliceAt 118 (.pointer (some ⟨g, 0, none⟩)) (some (.int .i64 (8 - (size : Int)))) none none).run Try.prog w = .ok (.slice (some ⟨g, 8 - size, none⟩) size size) w := by
  have hA : Try.prog.underlying 118 = some (.array (Try.prog.arrayLen 118) (Try.prog.elem 118)) := by kernel_rfl
  have hL : Try.prog.arrayLen 118 = 8 := by kernel_rfl
  have hE : Try.prog.elem 118 = 5 := by kernel_rfl
  have hz : ∀ w, (Go.sizeOf 5).run Try.prog w = .ok 1 w := fun w => by kernel_rfl
  rw [run_sliceAt_array_l w 118 ⟨g, 0, none⟩ hA .i64 (8 - (size : Int)) (by omega) (by rw [hL]; omega), hE, hz, hL]
  simp only [Result.andThen, slicedAt]
  rw [show (8 - (size : Int)).toNat = 8 - size by omega, show 8 - (8 - size) = size by omega]
  by_cases h : size = 8
  · subst h; simp [Addr.add]
  · rw [if_neg (by omega)]; simp [Addr.add]; omega
set_option maxRecDepth 100000 in
theorem run_put_back (n size : Nat) (h1 : 1 ≤ size) (hs : size ≤ 8) (w : World) :
    (convert 69 9 (.slice (some ⟨w.heap.size, 8 - size, none⟩) size size)).run Try.prog (w.alloc (.cells #[.int .u8 ((n : Int) / 72057594037927936 % 256), .int .u8 ((n : Int) / 281474976710656 % 256),
                .int .u8 ((n : Int) / 1099511627776 % 256), .int .u8 ((n : Int) / 4294967296 % 256), .int .u8 ((n : Int) / 16777216 % 256), .int .u8 ((n : Int) / 65536 % 256),
                .int .u8 ((n : Int) / 256 % 256), .int .u8 ((n : Int) % 256)] 118)) = .ok (.string ⟨(Pm.be n size).toArray⟩) (w.alloc (.cells #[.int .u8 ((n : Int) / 72057594037927936 % 256), .int .u8 ((n : Int) / 281474976710656 % 256),
                .int .u8 ((n : Int) / 1099511627776 % 256), .int .u8 ((n : Int) / 4294967296 % 256), .int .u8 ((n : Int) / 16777216 % 256), .int .u8 ((n : Int) / 65536 % 256),
                .int .u8 ((n : Int) / 256 % 256), .int .u8 ((n : Int) % 256)] 118)) := by
  have hcell : ∀ j, j < 8 → (#[Value.int .u8 ((n : Int) / 72057594037927936 % 256), .int .u8 ((n : Int) / 281474976710656 % 256),
                .int .u8 ((n : Int) / 1099511627776 % 256), .int .u8 ((n : Int) / 4294967296 % 256), .int .u8 ((n : Int) / 16777216 % 256), .int .u8 ((n : Int) / 65536 % 256),
                .int .u8 ((n : Int) / 256 % 256), .int .u8 ((n : Int) % 256)] : Array Value)[j]? = some (.int .u8 (((n / 256 ^ (7 - j) : Nat) : Int) % 256)) := by
    intro j hj
    obtain rfl | rfl | rfl | rfl | rfl | rfl | rfl | rfl : j = 0 ∨ j = 1 ∨ j = 2 ∨ j = 3 ∨ j = 4 ∨ j = 5 ∨ j = 6 ∨ j = 7 := by omega
    all_goals simp
  have h := run_convert_bytes_arg (P := Try.prog) (w.alloc (.cells #[.int .u8 ((n : Int) / 72057594037927936 % 256), .int .u8 ((n : Int) / 281474976710656 % 256),
                .int .u8 ((n : Int) / 1099511627776 % 256), .int .u8 ((n : Int) / 4294967296 % 256), .int .u8 ((n : Int) / 16777216 % 256), .int .u8 ((n : Int) / 65536 % 256),
                .int .u8 ((n : Int) / 256 % 256), .int .u8 ((n : Int) % 256)] 118)) 69 5 Try.underlying69 Try.underlying5 w.heap.size (8 - size) size size
                ((List.range size).map fun i => ((n / 256 ^ (size - 1 - i) : Nat) : Int) % 256) (by simp) (fun i hi => by
      rw [World.cell?_alloc_mark, hcell _ (by omega)]
      simp [List.getD, hi]
      rw [show 7 - (8 - size + i) = size - 1 - i by omega]) 9 Try.underlying9
  rw [h]
  congr 2
  apply ByteArray.ext
  apply Array.toList_inj.1
  rw [strOfNums_data]
  clear h hcell
  show _ = Pm.be n size
  clear h1 hs w
  induction size with
  | zero => rfl
  | succ k ih =>
    rw [List.range_succ_eq_map]
    simp only [List.map_cons, List.map_map, Pm.be]
    congr 1
    · apply UInt8.toNat_inj.1
      have e : (((n / 256 ^ (k + 1 - 1 - 0) : Nat) : Int) % 256).toNat = n / 256 ^ k % 256 := by
        rw [show k + 1 - 1 - 0 = k by omega]; omega
      rw [e]
      simp
    · rw [← ih, List.map_map]
      apply List.map_congr_left
      intro x hx
      simp only [Function.comp]
      rw [show k + 1 - 1 - (x + 1) = k - 1 - x by omega]
set_option maxRecDepth 100000 in
set_option maxHeartbeats 1000000 in
theorem put_yes (n : Nat) (size : Nat) (w : World) (h1 : 1 ≤ size) (hs : size ≤ 8) (hf : n < 256 ^ size) :
    Calls Try.prog 53 #[.int .u64 n, .int .i64 size] w fun e w' => e = .returned (.tuple #[.string ⟨(Pm.be n size).toArray⟩, .bool true]) ∧ Below w.heap.size w w' := by
  have hz : (n : Int) / 2 ^ (8 * size) = 0 := by
    have : n / 2 ^ (8 * size) = 0 := by rw [Nat.pow_mul]; exact Nat.div_eq_of_lt hf
    exact_mod_cast this
  have HF := Lib.hid hf
  clear hf
  have hpt := run_put_tail size h1 hs
  have hpb := run_put_back n size h1 hs
  have d1 : decide ((size : Int) < 1) = false := by simp; omega
  have d2 : decide (8 < (size : Int)) = false := by simp; omega
  by_cases h8 : size < 8
  · go_enter Try.func53, Try.ntmps53
    go_wp2
    refine wp_loop_rounds 9 ?_
    iterate 9 (rw [rounds_succ]; go_wp2)
    go_ret2
    exact ⟨rfl, (Below.refl _ _).alloc (Nat.le_refl _) _⟩
  · clear hz
    have h8' : decide ((size : Int) < 8) = false := by simp; omega
    have h8'' : 8 ≤ size := by omega
    obtain rfl : size = 8 := by omega
    clear h8
    go_enter Try.func53, Try.ntmps53
    go_wp2
    refine wp_loop_rounds 9 ?_
    iterate 9 (rw [rounds_succ]; go_wp2)
    go_ret2
    exact ⟨rfl, (Below.refl _ _).alloc (Nat.le_refl _) _⟩
end Go.Proofs.Ytkbjmgenceghlaa
