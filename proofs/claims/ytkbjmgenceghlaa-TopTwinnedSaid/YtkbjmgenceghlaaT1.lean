/- Pages written twice: may area and homes be there, may pages be: what 'placed', 'inside', 'may', 'clear' answer. -/
import Derived.Test.YtkbjmgenceghlaaD10
import Derived.Maps.OwnOps
import Derived.Maps.OwnSet
namespace Go.Proofs.Ytkbjmgenceghlaa
open Go.RowKit
set_option maxRecDepth 100000 in
set_option maxHeartbeats 1000000 in
theorem placed_any (at_ bs : Nat) (w : World) (base d : Nat) (D : Pm.Dk) (h : IsDisk w base d D) (h1 : at_ + 33 ≤ D.sure.length) (h2 : bs ≤ D.sure.length) :
    Calls Try.prog 30 #[.pointer (some ⟨d, 0, none⟩), .int .i64 at_, .int .i64 bs] w fun e w' => e = .returned (.int .i64 0) ∧ w = w' := by
  have HN := Lib.hid (len_any w base d D h)
  have hbd := h.ok.bound
  clear h
  obtain ⟨m, hm⟩ : ∃ m, m = D.sure.length := ⟨_, rfl⟩
  rw [← hm] at h1 h2 HN hbd
  clear hm
  have hw : IntKind.i64.wrap ((m : Int) - 33) = (m : Int) - 33 := IntWalk.i64_in _ (by omega)
  have d1 : decide ((m : Int) - 33 < (at_ : Int)) = false := by simp; omega
  have d2 : decide (m < bs) = false := by simp; omega
  go_enter Try.func30, Try.ntmps30
  go_wp2_with fail
  refine (HN.out).mono ?_
  rintro e w1 ⟨rfl, rfl⟩
  go_wp2_with fail
  refine (HN.out).mono ?_
  rintro e w1 ⟨rfl, rfl⟩
  go_wp2_with fail
  go_ret
  exact ⟨rfl, rfl⟩
set_option maxRecDepth 100000 in
set_option maxHeartbeats 1000000 in
theorem inside_yes (at_ bs p : Nat) (w : World) (base d : Nat) (D : Pm.Dk) (h : IsDisk w base d D) (h1 : bs + p * 4 + 4 ≤ D.sure.length) (h2 : at_ + 33 ≤ bs) :
    Calls Try.prog 48 #[.pointer (some ⟨d, 0, none⟩), .int .i64 at_, .int .i64 bs, .int .u32 p] w fun e w' => e = .returned (.bool true) ∧ w = w' := by
  have HN := Lib.hid (len_any w base d D h)
  have hbd := h.ok.bound
  clear h
  obtain ⟨m, hm⟩ : ∃ m, m = D.sure.length := ⟨_, rfl⟩
  rw [← hm] at h1 HN hbd
  clear hm
  have d1 : decide ((bs : Int) + (p : Int) * 4 + 4 ≤ (m : Int)) = true := by simp; omega
  have d2 : decide ((at_ : Int) + 33 ≤ (bs : Int) + (p : Int) * 4) = true := by simp; omega
  go_enter Try.func48, Try.ntmps48
  go_wp2_with fail
  refine (HN.out).mono ?_
  rintro e w1 ⟨rfl, rfl⟩
  go_wp2_with fail
  go_ret
  exact ⟨rfl, rfl⟩
theorem info5z : ∃ i z, Try.prog.info? 5 = some i ∧ i.zero = some z ∧ i.size = 1 ∧ i.bytes = 1 ∧ z.cells = #[Value.int .u8 0] := info_of (c := 0) (by kernel_rfl)
/-- so many bytes 0, in a new block -/
def zrow (n : Nat) : Obj := .cells (List.replicate n (Value.int .u8 0)).toArray 5
theorem run_make_zero (n : Nat) (w : World) (hn : n ≤ 1000000) : (Instr.makeSlice 69 (.int .i64 n) (.int .i64 n)).run Try.prog w = .ok (.slice (some ⟨w.heap.size, 0, none⟩) n n) (w.alloc (zrow n)) := by
  obtain ⟨i, z, hi, hz, hs, hby, hzc⟩ := info5z
  have hmk := run_make (P := Try.prog) w 69 5 i z Try.underlying69 hi hz .i64 .i64 n n (by omega) (Int.le_refl _) (by rw [hby]; omega) (by omega)
  rw [Int.toNat_natCast, hs, Nat.mul_one] at hmk
  have e : madeCells z.cells n = (List.replicate n (Value.int .u8 0)).toArray := by
    apply Array.ext
    · simp [madeCells]
    · intro i h1 h2
      simp [madeCells, hzc, Nat.mod_one]
  rw [hmk, e]
  rfl
theorem run_zero_string (n : Nat) (w : World) (hn : n ≤ 1000000) : (convert 69 9 (.slice (some ⟨w.heap.size, 0, none⟩) n n)).run Try.prog (w.alloc (zrow n)) = .ok (.string ⟨(Pm.zeros n).toArray⟩) (w.alloc (zrow n)) := by
  have h := run_convert_bytes_arg (P := Try.prog) (w.alloc (zrow n)) 69 5 Try.underlying69 Try.underlying5 w.heap.size 0 n n (List.replicate n 0) (by simp) (fun i hi => by
    rw [Nat.zero_add]
    refine ((Blk.new w 5 (List.replicate n (Value.int .u8 0)).toArray).cell i).trans ?_
    simp [hi]) 9 Try.underlying9
  rw [h]
  unfold strOfNums Pm.zeros
  rw [List.map_replicate]
  rfl
set_option maxRecDepth 100000 in
set_option maxHeartbeats 1000000 in
theorem clear_any (w : World) : Calls Try.prog 36 #[] w fun e w' => e = .returned (.string ⟨(Pm.zeros 128).toArray⟩) ∧ Below w.heap.size w w' := by
  have h1 := run_make_zero 128 w (by omega)
  change (Instr.makeSlice 69 (.int .i64 128) (.int .i64 128)).run Try.prog w = _ at h1
  have h2 := run_zero_string 128 w (by omega)
  go_enter Try.func36, Try.ntmps36
  go_wp2_with fail
  go_ret
  exact ⟨rfl, ba (Below.refl _ _) _⟩
def homeCells (x : Nat × List UInt8) : List Value := [.int .u32 (x.1 : Int), .string ⟨x.2.toArray⟩]
theorem homeCells_len (x : Nat × List UInt8) : (homeCells x).length = 2 := rfl
/-- pages to be written, in a slice -/
def HomesAt (base : Nat) (w : World) (v : Value) (l : List (Nat × List UInt8)) : Prop := w.ownsRow base 47 2 v l.length (l.flatMap homeCells)
theorem HomesAt.below {base : Nat} {w w' : World} {v : Value} {l : List (Nat × List UInt8)} (h : HomesAt base w v l) (hb : Below w.heap.size w w') : HomesAt base w' v l :=
  World.ownsRow.kept (row := none) h ⟨hb.os, hb.tape, hb.output, hb.size, fun k hk _ => hb.block k hk⟩ (by cases v.ownBlock <;> simp)
/-- page number k of a slice -/
theorem HomesAt.get {base : Nat} {w : World} {v : Value} {l : List (Nat × List UInt8)} (h : HomesAt base w v l) (k : Nat) (hk : k < l.length) :
    ∃ g c, v = .slice (some ⟨g, 0, none⟩) l.length c ∧ g < w.heap.size ∧ w.cell? ⟨g, k * 2, none⟩ = some (.int .u32 ((l[k]'hk).1 : Int)) ∧ w.cell? ⟨g, k * 2 + 1, none⟩ = some (.string ⟨(l[k]'hk).2.toArray⟩) := by
  obtain ⟨n, hn⟩ : ∃ n, l.length = n + 1 := ⟨l.length - 1, by omega⟩
  have h' : w.ownsRow base 47 2 v (n + 1) (l.flatMap homeCells) := by rw [← hn]; exact h
  obtain ⟨g, cap, rfl⟩ := owns_succ h'
  obtain ⟨cap', cur, e, hb, hB, h3, h4, h5, h6⟩ := owns_blk h' (g := g) rfl
  have hr := rows_range homeCells (size := 2) (n := n + 1) (by omega) l (fun x _ => rfl) hB hn h6 k hk
  refine ⟨g, cap, by rw [hn], hB.lt, ?_, ?_⟩
  · simpa using hr 0 _ rfl
  · simpa using hr 1 _ rfl
theorem HomesAt.shape {base : Nat} {w : World} {v : Value} {l : List (Nat × List UInt8)} (h : HomesAt base w v l) : ∃ p c, v = .slice p l.length c := by
  rcases h.2 with ⟨h1, h2⟩ | ⟨g, cap, cur, h1, _⟩
  · rw [h2]; exact ⟨_, _, h1⟩
  · exact ⟨_, _, h1⟩
theorem plainElem_bool_inv {P : Program} {e : TypeId} (he : P.underlying e = some .bool) {v : Value} {z : DataW Unit × List MemPlace} (h : plainElem P e v = some z) : ∃ x, v = .bool x ∧ z = (.lit (.bool x), []) := by
  unfold plainElem at h
  rw [he] at h
  cases v <;> simp at h
  subst h
  exact ⟨_, rfl, rfl⟩
/-- a map in which only these keys may be -/
def SeenAt (w : World) (b n : Nat) (ks : List Nat) : Prop := ∃ D : DataW Unit, w.ownsMap Try.prog 37 (plainElem Try.prog 4) b n D ∧ ∀ p : Nat, p ∉ ks → ∀ z, D.atKey (.int .u32 (p : Int)) z = z
theorem u32_wf (p : Nat) (hp : p < 4294967296) : (Lit.int .u32 (p : Int)).wf = true := by
  have h1 : IntKind.u32.min = 0 := rfl
  have h2 : IntKind.u32.max = 4294967295 := rfl
  show (decide (IntKind.u32.min ≤ (p : Int)) && decide ((p : Int) ≤ IntKind.u32.max)) = true
  rw [h1, h2]
  simp only [Bool.and_eq_true, decide_eq_true_eq]
  omega
theorem SeenAt.look {w : World} {b n : Nat} {ks : List Nat} (h : SeenAt w b n ks) (p : Nat) (hp : p < 4294967296) (hn : p ∉ ks) : (Instr.lookup 105 (.map (some b)) (.int .u32 (p : Int)) false).run Try.prog w = .ok (.bool false) w := by
  obtain ⟨D, ho, hD⟩ := h
  obtain ⟨v, ps, hr, hv⟩ := ho.lookup (Maps.int_keyed Try.underlying37) Try.underlying105 (Try.zeroValue4 w) (plainElem_bool Try.underlying4 false) (Maps.keyOf_int_mk Try.underlying37 (u32_wf p hp))
  rw [hD p hn] at hv
  obtain ⟨x, rfl, e⟩ := plainElem_bool_inv Try.underlying4 hv
  cases e
  exact hr
theorem SeenAt.put {w' : World} {b n : Nat} {ks : List Nat} {D : DataW Unit} (hD : ∀ p : Nat, p ∉ ks → ∀ z, D.atKey (.int .u32 (p : Int)) z = z) (p : Nat) (h : w'.ownsMap Try.prog 37 (plainElem Try.prog 4) b (n + 1) (D.put (.int .u32 (p : Int)) (.lit (.bool true)))) : SeenAt w' b (n + 1) (ks ++ [p]) := by
  refine ⟨_, h, fun q hq z => ?_⟩
  have hqp : q ≠ p := fun e => hq (by simp [e])
  rw [Maps.atKey_put_other (fun e => hqp (by injection e with _ e; omega))]
  exact hD q (fun hm => hq (by simp [hm])) z
end Go.Proofs.Ytkbjmgenceghlaa
