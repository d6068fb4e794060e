/- A row put into bytes: what the code answers, as lemmas for every input that their premises allow; a part of the proof of TopRowed. -/
import Derived.Test.YtaddjpngjhkkmaaW5
namespace Go.Proofs.Ytaddjpngjhkkmaa
open Go.RowKit
attribute [local go_sem ↓] Go.wp_at_zero Go.wp_at_succ
theorem get_any (l : List UInt8) (a size : Nat) (w : World) (hl : l.length ≤ 1000000) (h1 : 1 ≤ size) (h8 : size ≤ 8) (ha : a ≤ 4000000000000) :
    Calls Try.prog 38 #[.string ⟨l.toArray⟩, .int .i64 a, .int .i64 size] w fun e w' => e = .returned (.tuple #[.int .u64 (Pm.getN l a size : Nat), .bool (Pm.okN l a size)]) ∧ Below w.heap.size w w' := by
  by_cases h : a + size ≤ l.length
  · have e1 : Pm.getN l a size = Pm.num ((l.drop a).take size) := by simp [Pm.getN, h]
    have e2 : Pm.okN l a size = true := by simp [Pm.okN, h]
    rw [e1, e2]
    exact get_yes l a size w hl h1 h8 h
  · have e1 : Pm.getN l a size = 0 := by simp [Pm.getN, h]
    have e2 : Pm.okN l a size = false := by simp [Pm.okN, h]
    rw [e1, e2]
    exact (get_no l a size w hl ha (by omega) (by omega)).mono fun e w' ⟨he, hw⟩ => ⟨he, hw ▸ Below.refl _ _⟩
theorem cut_any (l : List UInt8) (a size : Nat) (w : World) (hl : l.length ≤ 1000000) (ha : a ≤ 4000000000000) (hs : size ≤ 1000000) :
    Calls Try.prog 43 #[.string ⟨l.toArray⟩, .int .i64 a, .int .i64 size] w fun e w' => e = .returned (.tuple #[.string ⟨(Pm.cutN l a size).toArray⟩, .bool (Pm.okN l a size)]) ∧ w = w' := by
  by_cases h : a + size ≤ l.length
  · have e1 : Pm.cutN l a size = (l.drop a).take size := by simp [Pm.cutN, h]
    have e2 : Pm.okN l a size = true := by simp [Pm.okN, h]
    rw [e1, e2]
    exact cut_yes l a size w hl h
  · have e1 : Pm.cutN l a size = [] := by simp [Pm.cutN, h]
    have e2 : Pm.okN l a size = false := by simp [Pm.okN, h]
    rw [e1, e2]
    exact cut_no l a size w hl ha hs (by omega)
set_option maxRecDepth 100000 in
set_option maxHeartbeats 1000000 in
theorem reading_num (l : List UInt8) (a size : Nat) (b : Bool) (g : Nat) (w : World) (hl : l.length ≤ 1000000) (h1 : 1 ≤ size) (h8 : size ≤ 8) (ha : a ≤ 4000000000000) (hB : Blk w g 69 #[.string ⟨l.toArray⟩, .int .i64 a, .bool b]) :
    Calls Try.prog 24 #[.pointer (some ⟨g, 0, none⟩), .int .i64 size] w fun e w' => e = .returned (.int .u64 (Pm.getN l a size : Nat)) ∧ Blk w' g 69 #[.string ⟨l.toArray⟩, .int .i64 ((a + size : Nat) : Int), .bool (b && Pm.okN l a size)] ∧ Only w w' g := by
  have c0 : w.cell? ⟨g, 0, none⟩ = some (.string ⟨l.toArray⟩) := hB.cell 0
  have c1 : w.cell? ⟨g, 1, none⟩ = some (.int .i64 a) := hB.cell 1
  have c2 : w.cell? ⟨g, 2, none⟩ = some (.bool b) := hB.cell 2
  have f1 := hB.frozen 1
  have f2 := hB.frozen 2
  have hg := hB.lt
  cases b
  · go_enter Try.func24, Try.ntmps24
    go_wp2
    go_region_held3 (fun w' => w'.cell? ⟨g, 0, none⟩ = some (.string ⟨l.toArray⟩) ∧ w'.cell? ⟨g, 1, none⟩ = some (.int .i64 a) ∧ w'.cell? ⟨g, 2, none⟩ = some (.bool false) ∧ w'.frozen? ⟨g, 1, none⟩ = false ∧ w'.frozen? ⟨g, 2, none⟩ = false) (go_keep)
      (first | (go_at_call 38; ((with_reducible refine (get_any l a size _ hl h1 h8 ha).mono ?_); rintro e w1 ⟨rfl, hb1⟩; obtain ⟨hc1, hf1, hz1⟩ := bblk hb1 g (by simp; exact hg))))
    go_wp2
    go_ret
    exact ⟨rfl, ((hB.drew.after hb1).set_ 1 _).set_ 2 _, (((Only.refl w g).drew.below hb1).set_ 1 _).set_ 2 _⟩
  · go_enter Try.func24, Try.ntmps24
    go_wp2
    go_region_held3 (fun w' => w'.cell? ⟨g, 0, none⟩ = some (.string ⟨l.toArray⟩) ∧ w'.cell? ⟨g, 1, none⟩ = some (.int .i64 a) ∧ w'.cell? ⟨g, 2, none⟩ = some (.bool true) ∧ w'.frozen? ⟨g, 1, none⟩ = false ∧ w'.frozen? ⟨g, 2, none⟩ = false) (go_keep)
      (first | (go_at_call 38; ((with_reducible refine (get_any l a size _ hl h1 h8 ha).mono ?_); rintro e w1 ⟨rfl, hb1⟩; obtain ⟨hc1, hf1, hz1⟩ := bblk hb1 g (by simp; exact hg))))
    go_wp2
    go_ret
    exact ⟨rfl, ((hB.drew.after hb1).set_ 1 _).set_ 2 _, (((Only.refl w g).drew.below hb1).set_ 1 _).set_ 2 _⟩
set_option maxRecDepth 100000 in
set_option maxHeartbeats 1000000 in
theorem reading_text (l : List UInt8) (a size : Nat) (b : Bool) (g : Nat) (w : World) (hl : l.length ≤ 1000000) (hs : size ≤ 1000000) (ha : a ≤ 4000000000000) (hB : Blk w g 69 #[.string ⟨l.toArray⟩, .int .i64 a, .bool b]) :
    Calls Try.prog 23 #[.pointer (some ⟨g, 0, none⟩), .int .i64 size] w fun e w' => e = .returned (.string ⟨(Pm.cutN l a size).toArray⟩) ∧ Blk w' g 69 #[.string ⟨l.toArray⟩, .int .i64 ((a + size : Nat) : Int), .bool (b && Pm.okN l a size)] ∧ Only w w' g := by
  have c0 : w.cell? ⟨g, 0, none⟩ = some (.string ⟨l.toArray⟩) := hB.cell 0
  have c1 : w.cell? ⟨g, 1, none⟩ = some (.int .i64 a) := hB.cell 1
  have c2 : w.cell? ⟨g, 2, none⟩ = some (.bool b) := hB.cell 2
  have f1 := hB.frozen 1
  have f2 := hB.frozen 2
  have hg := hB.lt
  cases b
  · go_enter Try.func23, Try.ntmps23
    go_wp2
    go_region_held3 (fun w' => w'.cell? ⟨g, 0, none⟩ = some (.string ⟨l.toArray⟩) ∧ w'.cell? ⟨g, 1, none⟩ = some (.int .i64 a) ∧ w'.cell? ⟨g, 2, none⟩ = some (.bool false) ∧ w'.frozen? ⟨g, 1, none⟩ = false ∧ w'.frozen? ⟨g, 2, none⟩ = false) (go_keep)
      (first | (go_at_call 43; ((with_reducible refine (cut_any l a size _ hl ha hs).mono ?_); rintro e w1 ⟨rfl, rfl⟩)))
    go_wp2
    go_ret
    exact ⟨rfl, ((hB.drew).set_ 1 _).set_ 2 _, (((Only.refl w g).drew).set_ 1 _).set_ 2 _⟩
  · go_enter Try.func23, Try.ntmps23
    go_wp2
    go_region_held3 (fun w' => w'.cell? ⟨g, 0, none⟩ = some (.string ⟨l.toArray⟩) ∧ w'.cell? ⟨g, 1, none⟩ = some (.int .i64 a) ∧ w'.cell? ⟨g, 2, none⟩ = some (.bool true) ∧ w'.frozen? ⟨g, 1, none⟩ = false ∧ w'.frozen? ⟨g, 2, none⟩ = false) (go_keep)
      (first | (go_at_call 43; ((with_reducible refine (cut_any l a size _ hl ha hs).mono ?_); rintro e w1 ⟨rfl, rfl⟩)))
    go_wp2
    go_ret
    exact ⟨rfl, ((hB.drew).set_ 1 _).set_ 2 _, (((Only.refl w g).drew).set_ 1 _).set_ 2 _⟩
end Go.Proofs.Ytaddjpngjhkkmaa
