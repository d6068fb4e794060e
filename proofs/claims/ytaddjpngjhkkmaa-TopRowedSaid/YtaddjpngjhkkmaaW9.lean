/- An entry: its code and its reading: what the code answers, as lemmas for every input that their premises allow; a part of the proof of TopRowed. -/
import Derived.Test.YtaddjpngjhkkmaaW7
namespace Go.Proofs.Ytaddjpngjhkkmaa
open Go.RowKit
attribute [local go_sem ↓] Go.wp_at_zero Go.wp_at_succ
attribute [local go_sem ↓] add_short
set_option maxRecDepth 100000 in
set_option maxHeartbeats 2000000 in
theorem entry_encode (k : List UInt8) (ch : Nat) (w : World) (hk : k.length ≤ 48) (h1 : 1 ≤ ch) (h2 : ch ≤ 1024) :
    Calls Try.prog 11 #[.agg #[.string ⟨k.toArray⟩, .int .u32 ch]] w fun e w' => e = .returned (.tuple #[.string ⟨(Pm.be ch 4 ++ k).toArray⟩, .int .i64 0]) ∧ Below w.heap.size w w' := by
  have : Short k 1000000 := ⟨by omega⟩
  have hw1 : IntKind.u64.wrap (ch : Int) = ch := IntWalk.u64_in _ (by omega)
  have d1 : decide (48 < (k.length : Int)) = false := by simp; omega
  have d2 : decide ((ch : Int) < 1) = false := by simp; omega
  have d3 : decide (1024 < (ch : Int)) = false := by simp; omega
  go_enter Try.func11, Try.ntmps11
  go_wp2
  go_region_held3 (fun w' => w'.cell? ⟨w.heap.size, 0, none⟩ = some (.string ⟨k.toArray⟩) ∧ w'.cell? ⟨w.heap.size, 1, none⟩ = some (.int .u32 ch)) (go_keep)
      (first
       | (go_at_call 21; ((with_reducible refine (number_4 ch _ (by omega)).mono ?_); rintro e w1 ⟨rfl, hb1⟩; obtain ⟨hc1, _, hz1⟩ := bblk hb1 w.heap.size (by simp))))
  all_goals go_wp2
  go_ret2
  exact ⟨by simp, bt (bd (ba (Below.refl _ _) _)) hb1⟩
set_option maxRecDepth 100000 in
set_option maxHeartbeats 2000000 in
theorem entered_any (k : List UInt8) (ch : Nat) (w : World) (hk : k.length ≤ 48) (h2 : ch ≤ 1024) :
    Calls Try.prog 13 #[.agg #[.string ⟨k.toArray⟩, .int .u32 ch]] w fun e w' => e = .returned (.string ⟨(Pm.be ch 4 ++ k).toArray⟩) ∧ Below w.heap.size w w' := by
  have : Short k 1000000 := ⟨by omega⟩
  have hw1 : IntKind.u64.wrap (ch : Int) = ch := IntWalk.u64_in _ (by omega)
  go_enter Try.func13, Try.ntmps13
  go_wp2
  go_region_held3 (fun w' => w'.cell? ⟨w.heap.size, 0, none⟩ = some (.string ⟨k.toArray⟩) ∧ w'.cell? ⟨w.heap.size, 1, none⟩ = some (.int .u32 ch)) (go_keep)
      (first
       | (go_at_call 25; ((with_reducible refine (high_4 ch _).mono ?_); rintro e w1 ⟨rfl, hb1⟩; obtain ⟨hc1, _, hz1⟩ := bblk hb1 w.heap.size (by simp))))
  all_goals go_wp2
  go_ret
  exact ⟨by simp, bt (bd (ba (Below.refl _ _) _)) hb1⟩
theorem run_str_from (l : List UInt8) (a : Nat) (h : a ≤ l.length) (w : World) :
    (Instr.slice 9 (.string ⟨l.toArray⟩) (some (.int .i64 (a : Int))) none none).run Try.prog w = .ok (.string ⟨(l.drop a).toArray⟩) w := by
  have hsz : (ByteArray.mk l.toArray).size = l.length := by simp [ByteArray.size]
  rw [run_slice_string_from_if w 9 ⟨l.toArray⟩ .i64 (a : Int) Try.underlying9, hsz]
  rw [if_pos (by omega)]
  rw [Int.toNat_natCast, ByteArray.extract_mk]
  rw [List.take_of_length_le (by simp)]
theorem num_be (n k : Nat) (h : n < 256 ^ k) : Pm.num (Pm.be n k) = n := by
  have key : ∀ k a : Nat, (Pm.be n k).foldl (fun a b => a * 256 + b.toNat) a = a * 256 ^ k + n % 256 ^ k := by
    intro k
    induction k with
    | zero => intro a; simp [Pm.be, Nat.mod_one]
    | succ k ih =>
      intro a
      simp only [Pm.be, List.foldl_cons]
      rw [ih, Nat.pow_succ, Nat.mod_mul, UInt8.toNat_ofNat', Nat.add_mul, Nat.mul_assoc, Nat.mul_comm 256 (256 ^ k), Nat.mul_comm (n / 256 ^ k % 256)]
      first | done | omega
  have := key k 0
  unfold Pm.num
  rw [this, Nat.mod_eq_of_lt h]
  omega
theorem getN_be (pre post : List UInt8) (n k : Nat) (h : n < 256 ^ k) : Pm.getN (pre ++ Pm.be n k ++ post) pre.length k = n := by
  unfold Pm.getN
  have e : ((pre ++ Pm.be n k ++ post).drop pre.length).take k = Pm.be n k := by
    rw [List.append_assoc, List.drop_left]
    have := List.take_left (l₁ := Pm.be n k) (l₂ := post)
    rwa [Pm.be_length] at this
  rw [if_pos (by simp [Pm.be_length]), e, num_be n k h]
set_option maxRecDepth 100000 in
set_option maxHeartbeats 2000000 in
theorem entry_decode (k : List UInt8) (ch : Nat) (w : World) (hk : k.length ≤ 48) (h1 : 1 ≤ ch) (h2 : ch ≤ 1024) :
    Calls Try.prog 12 #[.string ⟨(Pm.be ch 4 ++ k).toArray⟩] w fun e w' => e = .returned (.tuple #[.agg #[.string ⟨k.toArray⟩, .int .u32 ch], .int .i64 0]) ∧ Below w.heap.size w w' := by
  have hw1 : IntKind.u32.wrap (ch : Int) = ch := IntWalk.u32_in _ (by omega)
  obtain ⟨l, hl⟩ : ∃ l, l = Pm.be ch 4 ++ k := ⟨_, rfl⟩
  have hg : Pm.getN l 0 4 = ch := by
    have := getN_be [] k ch 4 (by omega)
    simpa [hl] using this
  have hll : l.length = 4 + k.length := by rw [hl]; simp [Pm.be_length]
  have ho : Pm.okN l 0 4 = true := by unfold Pm.okN; simp; omega
  have hd : l.drop 4 = k := by
    have := List.drop_left (l₁ := Pm.be ch 4) (l₂ := k)
    rwa [Pm.be_length, ← hl] at this
  have hex : (ByteArray.mk l.toArray).extract 4 l.length = ByteArray.mk k.toArray := by
    rw [ByteArray.extract_mk, hd, List.take_of_length_le (by omega)]
  have HEX := Lib.hid hex
  clear hex
  have hl4 : 4 ≤ l.length := by omega
  have hl5 : l.length ≤ 1000 := by omega
  have hN := fun g W hB => reading_num l 0 4 true g W (by omega) (by omega) (by omega) (by omega) hB
  rw [hg, ho] at hN
  have HN := Lib.hid hN
  rw [← hl]
  clear hN hg ho hd hll hl
  go_enter Try.func12, Try.ntmps12
  go_wp2_with fail
  have hR0 := (Blk.new w 44 #[.string ⟨#[]⟩, .int .u32 0]).alloc (.cells #[.string ⟨l.toArray⟩, .int .i64 0, .bool true] 69)
  have hB0 : Blk ((w.alloc (.cells #[.string ⟨#[]⟩, .int .u32 0] 44)).alloc (.cells #[.string ⟨l.toArray⟩, .int .i64 0, .bool true] 69)) (w.heap.size + 1) 69 #[.string ⟨l.toArray⟩, .int .i64 ((0 : Nat) : Int), .bool true] := by
    have h := Blk.new (w.alloc (.cells #[.string ⟨#[]⟩, .int .u32 0] 44)) 69 #[.string ⟨l.toArray⟩, .int .i64 0, .bool true]
    simpa using h
  refine (HN.out _ _ hB0).mono ?_
  rintro e w1 ⟨rfl, hB1, hO1⟩
  have hR1 := hR0.grown hO1 (by simp)
  have hb1 : Below w.heap.size w w1 := bo (ba (ba (Below.refl _ _) _) _) hO1 (by omega)
  clear hR0 hB0 hO1
  have cr1 := hR1.cell
  have fr1 := hR1.frozen
  have cb1 := hB1.cell
  have lr1 := hR1.lt
  have lb1 := hB1.lt
  have n1 := Nat.ne_of_lt lr1
  have n2 := Nat.ne_of_lt lb1
  go_wp2_with fail
  rw [HEX.out]
  refine (entry_encode k ch _ hk h1 h2).mono ?_
  rintro e w2 ⟨rfl, hb2⟩
  have hR2 := (hR1.alloc (.cells #[.string ⟨k.toArray⟩, .int .u32 ch] 44)).after hb2
  have hK2 := (Blk.new w1 44 #[.string ⟨k.toArray⟩, .int .u32 ch]).after hb2
  have cr2 := hR2.cell
  have fr2 := hR2.frozen
  have ck2 := hK2.cell
  have lr2 := hR2.lt
  have lk2 := hK2.lt
  have hb3 : Below w.heap.size w w2 := bt (ba hb1 _) hb2
  clear hb2 hR1 hB1 cr1 fr1 cb1
  go_wp2_with fail
  refine bodyPost_ret (v := .tuple #[.agg #[.string ⟨k.toArray⟩, .int .u32 ch], .int .i64 0]) (by simp [results, Try.results12, go_sem, cr2, fr2, ck2]) rfl ⟨rfl, ?_⟩
  exact bs (bs hb3 (Nat.le_refl _) _) (Nat.le_refl _) _
end Go.Proofs.Ytaddjpngjhkkmaa
