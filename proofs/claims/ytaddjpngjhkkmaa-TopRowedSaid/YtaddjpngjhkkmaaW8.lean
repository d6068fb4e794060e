/- A part of the walk: what the code answers, as lemmas for every input that their premises allow; a part of the proof of TopRowed. -/
import Derived.Test.YtaddjpngjhkkmaaW7
import Derived.Test.YtaddjpngjhkkmaaSpec2
import Derived.Deep.DeepCutAuto
namespace Go.Proofs.Ytaddjpngjhkkmaa
open Go.RowKit
attribute [local go_sem ↓] Go.wp_at_zero Go.wp_at_succ
theorem chainK {W w1 : World} {g b : Nat} {cs : Array Value} (h : Blk W b 31 cs) (hO : Only W w1 g) (hne : b ≠ g) : Blk w1 b 31 cs ∧ (∀ i, w1.cell? ⟨b, i, none⟩ = cs[i]?) ∧ (∀ i, w1.frozen? ⟨b, i, none⟩ = false) ∧ b ≠ g ∧ b < w1.heap.size :=
  have k := h.grown hO (by simpa using hne)
  ⟨k, k.cell, k.frozen, hne, k.lt⟩
theorem ne2 {a b : Nat} (h : a + 1 + 1 < b) : b ≠ a + 1 := by omega
/-- seven cells of block b are written -/
def Seven (w : World) (b : Nat) (v0 v1 v2 v3 v4 v5 v6 : Value) : World :=
  ((((((w.setCell ⟨b, 0, none⟩ v0).setCell ⟨b, 1, none⟩ v1).setCell ⟨b, 2, none⟩ v2).setCell ⟨b, 3, none⟩ v3).setCell ⟨b, 4, none⟩ v4).setCell ⟨b, 5, none⟩ v5).setCell ⟨b, 6, none⟩ v6
theorem Blk.seven {w : World} {g b : Nat} {t : TypeId} {cs : Array Value} (h : Blk w g t cs) (hne : g ≠ b) (v0 v1 v2 v3 v4 v5 v6 : Value) : Blk (Seven w b v0 v1 v2 v3 v4 v5 v6) g t cs :=
  ((((((h.far (p := ⟨b, 0, none⟩) hne _).far (p := ⟨b, 1, none⟩) hne _).far (p := ⟨b, 2, none⟩) hne _).far (p := ⟨b, 3, none⟩) hne _).far (p := ⟨b, 4, none⟩) hne _).far (p := ⟨b, 5, none⟩) hne _).far (p := ⟨b, 6, none⟩) hne _
theorem Blk.seven_at {w : World} {b : Nat} {t : TypeId} {u0 u1 u2 u3 u4 u5 u6 : Value} (h : Blk w b t #[u0, u1, u2, u3, u4, u5, u6]) (v0 v1 v2 v3 v4 v5 v6 : Value) : Blk (Seven w b v0 v1 v2 v3 v4 v5 v6) b t #[v0, v1, v2, v3, v4, v5, v6] := by
  have k := ((((((h.set_ 0 v0).set_ 1 v1).set_ 2 v2).set_ 3 v3).set_ 4 v4).set_ 5 v5).set_ 6 v6
  simp at k
  exact k
/-- what stays while row.Decode reads -/
def St (w W : World) : Prop :=
  Blk W w.heap.size 31 #[.string ⟨#[]⟩, .bool false, .int .u64 0, .int .u32 0, .int .u16 0, .string ⟨#[]⟩, .int .i64 0] ∧ Blk W (w.heap.size + 1 + 1) 65 #[.pointer (some ⟨w.heap.size + 1, 0, none⟩)] ∧ Below w.heap.size w W
theorem St.drew {w W : World} (h : St w W) : St w W.drew := ⟨h.1, h.2.1, h.2.2.drew⟩
theorem St.alloc {w W : World} (h : St w W) (o : Obj) : St w (W.alloc o) := ⟨h.1.alloc o, h.2.1.alloc o, ba h.2.2 o⟩
theorem St.only {w W c : World} (h : St w W) (hO : Only W c (w.heap.size + 1)) : St w c :=
  ⟨h.1.grown hO (by simp), h.2.1.grown hO (by simp), bo h.2.2 hO (by omega)⟩
theorem St.seven {w W : World} (h : St w W) {b : Nat} (hb : w.heap.size + 1 + 1 < b) (v0 v1 v2 v3 v4 v5 v6 : Value) : St w (Seven W b v0 v1 v2 v3 v4 v5 v6) :=
  ⟨h.1.seven (by omega) _ _ _ _ _ _ _, h.2.1.seven (by omega) _ _ _ _ _ _ _,
    bs (bs (bs (bs (bs (bs (bs h.2.2 (p := ⟨b, 0, none⟩) (by show _ ≤ b; omega) _) (p := ⟨b, 1, none⟩) (by show _ ≤ b; omega) _) (p := ⟨b, 2, none⟩) (by show _ ≤ b; omega) _) (p := ⟨b, 3, none⟩) (by show _ ≤ b; omega) _) (p := ⟨b, 4, none⟩) (by show _ ≤ b; omega) _) (p := ⟨b, 5, none⟩) (by show _ ≤ b; omega) _) (p := ⟨b, 6, none⟩) (by show _ ≤ b; omega) _⟩
/-- what region 3 of row.Decode leaves -/
def Dec3 (l : List UInt8) (w : World) (s6 : Value) (wx : World) : Prop :=
  ∃ k : Nat, s6 = .pointer (some ⟨k, 0, none⟩) ∧ w.heap.size + 1 + 1 < k ∧ Blk wx k 31 #[.string ⟨#[]⟩, .bool (Pm.rdMark l), .int .u64 (Pm.rdTx l : Nat), .int .u32 (Pm.rdPg l : Nat), .int .u16 (Pm.rdSl l : Nat), .string ⟨#[]⟩, .int .i64 0] ∧
    Blk wx (w.heap.size + 1) 69 #[.string ⟨l.toArray⟩, .int .i64 ((15 : Nat) : Int), .bool (Pm.rdB1 l)] ∧ St w wx
theorem Dec3.last {l : List UInt8} {w w4 : World} (hz : w.heap.size + 1 + 1 < w4.heap.size) (hS : St w w4)
    (hB : Blk w4 (w.heap.size + 1) 69 #[.string ⟨l.toArray⟩, .int .i64 ((13 + 2 : Nat) : Int), .bool (Pm.rdB1 l)]) :
    Dec3 l w (.pointer (some ⟨w4.heap.size, 0, none⟩)) (w4.alloc (.cells #[.string ⟨#[]⟩, .bool (Pm.rdMark l), .int .u64 (Pm.rdTx l : Nat), .int .u32 (Pm.rdPg l : Nat), .int .u16 (Pm.rdSl l : Nat), .string ⟨#[]⟩, .int .i64 0] 31)) :=
  ⟨_, rfl, hz, Blk.new _ _ _, hB.alloc _, hS.alloc _⟩
theorem Dec3.before {l : List UInt8} {w w4 : World} {b : Nat} {u0 u1 u2 u3 u4 u5 u6 : Value} (hz : w.heap.size + 1 + 1 < b) (hS : St w w4) (hK : Blk w4 b 31 #[u0, u1, u2, u3, u4, u5, u6])
    (hB : Blk w4 (w.heap.size + 1) 69 #[.string ⟨l.toArray⟩, .int .i64 ((13 + 2 : Nat) : Int), .bool (Pm.rdB1 l)]) :
    Dec3 l w (.pointer (some ⟨b, 0, none⟩)) (Seven w4 b (.string ⟨#[]⟩) (.bool (Pm.rdMark l)) (.int .u64 (Pm.rdTx l : Nat)) (.int .u32 (Pm.rdPg l : Nat)) (.int .u16 (Pm.rdSl l : Nat)) (.string ⟨#[]⟩) (.int .i64 0)) :=
  ⟨_, rfl, hz, hK.seven_at _ _ _ _ _ _ _, hB.seven (by omega) _ _ _ _ _ _ _, hS.seven hz _ _ _ _ _ _ _⟩
theorem piece1 (l : List UInt8) (w W : World) (hl : l.length ≤ 100000) (hV : Blk W (w.heap.size + 1 + 1) 65 #[.pointer (some ⟨w.heap.size + 1, 0, none⟩)]) (hB : Blk W (w.heap.size + 1) 69 #[.string ⟨l.toArray⟩, .int .i64 ((15 : Nat) : Int), .bool (Pm.rdB1 l)]) :
    Calls Try.prog 22 #[.pointer (some ⟨w.heap.size + 1 + 1, 0, none⟩)] W fun e w' => e = .returned (.string ⟨(Pm.rdKey l).toArray⟩) ∧ Blk w' (w.heap.size + 1) 69 #[.string ⟨l.toArray⟩, .int .i64 ((16 + Pm.rdKl l : Nat) : Int), .bool (Pm.rdB2 l)] ∧ Only W w' (w.heap.size + 1) :=
  piece_any l 15 (Pm.rdB1 l) (w.heap.size + 1 + 1) (w.heap.size + 1) W (by omega) (by omega) hV hB
theorem piece2 (l : List UInt8) (w W : World) (hl : l.length ≤ 100000) (hV : Blk W (w.heap.size + 1 + 1) 65 #[.pointer (some ⟨w.heap.size + 1, 0, none⟩)]) (hB : Blk W (w.heap.size + 1) 69 #[.string ⟨l.toArray⟩, .int .i64 ((16 + Pm.rdKl l : Nat) : Int), .bool (Pm.rdB2 l)]) :
    Calls Try.prog 22 #[.pointer (some ⟨w.heap.size + 1 + 1, 0, none⟩)] W fun e w' => e = .returned (.string ⟨(Pm.rdVal l).toArray⟩) ∧ Blk w' (w.heap.size + 1) 69 #[.string ⟨l.toArray⟩, .int .i64 ((Pm.rdEnd l : Nat) : Int), .bool (Pm.rdOk l)] ∧ Only W w' (w.heap.size + 1) :=
  have kl1 : Pm.rdKl l < 256 := getN_lt l 15 1
  piece_any l (16 + Pm.rdKl l) (Pm.rdB2 l) (w.heap.size + 1 + 1) (w.heap.size + 1) W (by omega) (by omega) hV hB
theorem cutN_len (l : List UInt8) (a size : Nat) : (Pm.cutN l a size).length ≤ size := by
  unfold Pm.cutN
  split
  · simp; omega
  · simp
set_option maxRecDepth 100000 in
set_option maxHeartbeats 4000000 in
theorem decode_yes (l : List UInt8) (w : World) (hl : l.length ≤ 100000) (hg : Pm.rdGood l = true) :
    Calls Try.prog 6 #[.string ⟨l.toArray⟩] w fun e w' => e = .returned (.tuple #[.agg #[.string ⟨(Pm.rdKey l).toArray⟩, .bool (Pm.rdMark l), .int .u64 (Pm.rdTx l : Nat), .int .u32 (Pm.rdPg l : Nat), .int .u16 (Pm.rdSl l : Nat), .string ⟨(Pm.rdVal l).toArray⟩, .int .i64 (Pm.rdPad l)], .int .i64 0]) ∧ Below w.heap.size w w' := by
  have n0 : Pm.getN l 0 1 < 256 := getN_lt l 0 1
  have n2 : Pm.getN l 9 4 < 4294967296 := getN_lt l 9 4
  have n3 : Pm.getN l 13 2 < 65536 := getN_lt l 13 2
  have hw2 : IntKind.u32.wrap (Pm.getN l 9 4 : Int) = Pm.getN l 9 4 := IntWalk.u32_in _ (by omega)
  have hw3 : IntKind.u16.wrap (Pm.getN l 13 2 : Int) = Pm.getN l 13 2 := IntWalk.u16_in _ (by omega)
  unfold Pm.rdGood at hg
  simp only [Bool.and_eq_true, decide_eq_true_eq] at hg
  have rk := hg.1.1
  have HMM := Lib.hid hg.1.2
  have HEE := Lib.hid hg.2
  clear hg
  go_enter Try.func6, Try.ntmps6
  go_upto_region 3 with fail
  go_cut [6] (Dec3 l w)
  case first =>
    obtain ⟨W, hW⟩ : ∃ W, W = (((w.alloc (.cells #[.string ⟨#[]⟩, .bool false, .int .u64 0, .int .u32 0, .int .u16 0, .string ⟨#[]⟩, .int .i64 0] 31)).alloc (.cells #[.string ⟨l.toArray⟩, .int .i64 0, .bool true] 69)).alloc (.cells #[.pointer (some ⟨w.heap.size + 1, 0, none⟩)] 65)) := ⟨_, rfl⟩
    have hR : Blk W w.heap.size 31 #[.string ⟨#[]⟩, .bool false, .int .u64 0, .int .u32 0, .int .u16 0, .string ⟨#[]⟩, .int .i64 0] := by
      rw [hW]; exact ((Blk.new w 31 _).alloc _).alloc _
    have hB0 : Blk W (w.heap.size + 1) 69 #[.string ⟨l.toArray⟩, .int .i64 ((0 : Nat) : Int), .bool true] := by
      have h := (Blk.new (w.alloc (.cells #[.string ⟨#[]⟩, .bool false, .int .u64 0, .int .u32 0, .int .u16 0, .string ⟨#[]⟩, .int .i64 0] 31)) 69 #[.string ⟨l.toArray⟩, .int .i64 0, .bool true]).alloc (.cells #[.pointer (some ⟨w.heap.size + 1, 0, none⟩)] 65)
      rw [hW]; simpa using h
    have hV : Blk W (w.heap.size + 1 + 1) 65 #[.pointer (some ⟨w.heap.size + 1, 0, none⟩)] := by
      have h := Blk.new ((w.alloc (.cells #[.string ⟨#[]⟩, .bool false, .int .u64 0, .int .u32 0, .int .u16 0, .string ⟨#[]⟩, .int .i64 0] 31)).alloc (.cells #[.string ⟨l.toArray⟩, .int .i64 0, .bool true] 69)) 65 #[.pointer (some ⟨w.heap.size + 1, 0, none⟩)]
      rw [hW]; simpa using h
    have hb : Below w.heap.size w W := by rw [hW]; exact ba (ba (ba (Below.refl _ _) _) _) _
    rw [← hW]
    clear hW
    have hS : St w W := ⟨hR, hV, hb⟩
    have cv : W.cell? ⟨w.heap.size + 1 + 1, 0, none⟩ = some (.pointer (some ⟨w.heap.size + 1, 0, none⟩)) := hV.cell 0
    have hz := hV.lt
    have nz := Nat.ne_of_gt hz
    have mz := Nat.ne_of_lt hz
    have N1 := Lib.hid (fun W hB => reading_num l 0 1 true (w.heap.size + 1) W (by omega) (by omega) (by omega) (by omega) hB)
    have N2 := Lib.hid (fun W hB => reading_num l 1 8 (true && Pm.okN l 0 1) (w.heap.size + 1) W (by omega) (by omega) (by omega) (by omega) hB)
    have N3 := Lib.hid (fun W hB => reading_num l 9 4 ((true && Pm.okN l 0 1) && Pm.okN l 1 8) (w.heap.size + 1) W (by omega) (by omega) (by omega) (by omega) hB)
    have N4 := Lib.hid (fun W hB => reading_num l 13 2 (((true && Pm.okN l 0 1) && Pm.okN l 1 8) && Pm.okN l 9 4) (w.heap.size + 1) W (by omega) (by omega) (by omega) (by omega) hB)
    go_region_held3 (fun w' => w'.cell? ⟨w.heap.size + 1 + 1, 0, none⟩ = some (.pointer (some ⟨w.heap.size + 1, 0, none⟩))) (go_keep)
      (first
       | (go_at_call_of 24 (Value.int .i64 1); ((refine (N1.out _ (by repeat (first | exact hB0 | apply Blk.drew | apply Blk.alloc))).mono ?_); rintro e w1 ⟨rfl, hB1, hO1⟩; obtain ⟨hc1, hf1, hz1⟩ := hO1.blk (w.heap.size + 1 + 1) (by first | omega | (simp; omega)) (by omega); have nz1 := Nat.ne_of_gt hz1; have mz1 := Nat.ne_of_lt hz1; (first | (have hS1 := St.only (St.drew hS) hO1) | (have hS1 := St.only hS hO1) | (have hS1 := St.only (St.alloc hS _) hO1) | (have hS1 := St.only (St.drew (St.alloc hS _)) hO1) | (have hS1 := St.only (St.alloc (St.drew hS) _) hO1)); first | (have k1 := chainK (Blk.new _ 31 _) hO1 (ne2 hz); obtain ⟨hK1, cK1, fK1, nK1, lK1⟩ := k1) | (have k1 := chainK (Blk.new _ 31 _).drew hO1 (ne2 hz); obtain ⟨hK1, cK1, fK1, nK1, lK1⟩ := k1) | skip))
       | (go_at_call_of 24 (Value.int .i64 8); ((refine (N2.out _ (by repeat (first | exact hB1 | apply Blk.drew | apply Blk.alloc))).mono ?_); rintro e w2 ⟨rfl, hB2, hO2⟩; obtain ⟨hc2, hf2, hz2⟩ := hO2.blk (w.heap.size + 1 + 1) (by first | omega | (simp; omega)) (by omega); have nz2 := Nat.ne_of_gt hz2; have mz2 := Nat.ne_of_lt hz2; (first | (have hS2 := St.only (St.drew hS1) hO2) | (have hS2 := St.only hS1 hO2) | (have hS2 := St.only (St.alloc hS1 _) hO2) | (have hS2 := St.only (St.drew (St.alloc hS1 _)) hO2) | (have hS2 := St.only (St.alloc (St.drew hS1) _) hO2)); first | (have k2 := chainK (Blk.new _ 31 _) hO2 (ne2 hz1); obtain ⟨hK2, cK2, fK2, nK2, lK2⟩ := k2) | (have k2 := chainK (Blk.new _ 31 _).drew hO2 (ne2 hz1); obtain ⟨hK2, cK2, fK2, nK2, lK2⟩ := k2) | (have k2 := chainK hK1 hO2 nK1; obtain ⟨hK2, cK2, fK2, nK2, lK2⟩ := k2) | skip))
       | (go_at_call_of 24 (Value.int .i64 4); ((refine (N3.out _ (by repeat (first | exact hB2 | apply Blk.drew | apply Blk.alloc))).mono ?_); rintro e w3 ⟨rfl, hB3, hO3⟩; obtain ⟨hc3, hf3, hz3⟩ := hO3.blk (w.heap.size + 1 + 1) (by first | omega | (simp; omega)) (by omega); have nz3 := Nat.ne_of_gt hz3; have mz3 := Nat.ne_of_lt hz3; (first | (have hS3 := St.only (St.drew hS2) hO3) | (have hS3 := St.only hS2 hO3) | (have hS3 := St.only (St.alloc hS2 _) hO3) | (have hS3 := St.only (St.drew (St.alloc hS2 _)) hO3) | (have hS3 := St.only (St.alloc (St.drew hS2) _) hO3)); first | (have k3 := chainK (Blk.new _ 31 _) hO3 (ne2 hz2); obtain ⟨hK3, cK3, fK3, nK3, lK3⟩ := k3) | (have k3 := chainK (Blk.new _ 31 _).drew hO3 (ne2 hz2); obtain ⟨hK3, cK3, fK3, nK3, lK3⟩ := k3) | (have k3 := chainK hK2 hO3 nK2; obtain ⟨hK3, cK3, fK3, nK3, lK3⟩ := k3) | skip))
       | (go_at_call_of 24 (Value.int .i64 2); ((refine (N4.out _ (by repeat (first | exact hB3 | apply Blk.drew | apply Blk.alloc))).mono ?_); rintro e w4 ⟨rfl, hB4, hO4⟩; obtain ⟨hc4, hf4, hz4⟩ := hO4.blk (w.heap.size + 1 + 1) (by first | omega | (simp; omega)) (by omega); have nz4 := Nat.ne_of_gt hz4; have mz4 := Nat.ne_of_lt hz4; (first | (have hS4 := St.only (St.drew hS3) hO4) | (have hS4 := St.only hS3 hO4) | (have hS4 := St.only (St.alloc hS3 _) hO4) | (have hS4 := St.only (St.drew (St.alloc hS3 _)) hO4) | (have hS4 := St.only (St.alloc (St.drew hS3) _) hO4)); first | (have k4 := chainK (Blk.new _ 31 _) hO4 (ne2 hz3); obtain ⟨hK4, cK4, fK4, nK4, lK4⟩ := k4) | (have k4 := chainK (Blk.new _ 31 _).drew hO4 (ne2 hz3); obtain ⟨hK4, cK4, fK4, nK4, lK4⟩ := k4) | (have k4 := chainK hK3 hO4 nK3; obtain ⟨hK4, cK4, fK4, nK4, lK4⟩ := k4) | skip)))
    all_goals (go_wp2_with fail; go_meet)
    · exact Dec3.last hz4 hS4 hB4
    · exact Dec3.before hz3 hS4 hK4 hB4
    · exact Dec3.before hz2 hS4 hK4 hB4
    · exact Dec3.before hz1 hS4 hK4 hB4
    · exact Dec3.before hz hS4 hK4 hB4
  case rest =>
    clear n0 n2 n3 hw2 hw3
    obtain ⟨k, rfl, hk, hK, hB, hS⟩ := hcut
    have hR := hS.1
    have hV := hS.2.1
    have hb := hS.2.2
    clear hS
    have P1 := Lib.hid (fun W hV hB => piece1 l w W hl hV hB)
    have P2 := Lib.hid (fun W hV hB => piece2 l w W hl hV hB)
    have hek : Pm.rdEnd l ≤ 1000 := by
      have kl1 : Pm.rdKl l < 256 := getN_lt l 15 1
      have vl1 : Pm.rdVl l < 256 := getN_lt l _ 1
      unfold Pm.rdEnd; omega
    have nkv : k ≠ w.heap.size + 1 + 1 := by omega
    have nkg : k ≠ w.heap.size + 1 := by omega
    go_wp2_with fail
    refine (P1.out wc hV hB).mono ?_
    rintro e w1 ⟨rfl, hB1, hO1⟩
    have hV1 := hV.grown hO1 (by simp)
    have hR1 := hR.grown hO1 (by simp)
    have hb1 := bo hb hO1 (by omega)
    have hK1 := hK.grown hO1 (by simpa using nkg)
    clear hV hR hb hK hB hO1
    have fk1 := hK1.frozen
    have ck1 := hK1.cell
    have lk1 := hK1.lt
    have fv1 := hV1.frozen
    have cv1 := hV1.cell
    go_wp2_with fail
    refine (P2.out _ (hV1.far (p := ⟨k, 0, none⟩) (Ne.symm nkv) _) (hB1.far (p := ⟨k, 0, none⟩) (Ne.symm nkg) _)).mono ?_
    rintro e w2 ⟨rfl, hB2, hO2⟩
    have hV2 := (hV1.far (p := ⟨k, 0, none⟩) (Ne.symm nkv) (.string ⟨(Pm.rdKey l).toArray⟩)).grown hO2 (by simp)
    have hR2 := (hR1.far (p := ⟨k, 0, none⟩) (by show _ ≠ k; omega) (.string ⟨(Pm.rdKey l).toArray⟩)).grown hO2 (by simp)
    have hb2 := bo (bs hb1 (p := ⟨k, 0, none⟩) (by show _ ≤ k; omega) (.string ⟨(Pm.rdKey l).toArray⟩)) hO2 (by omega)
    have hK2 := (hK1.set_ 0 (.string ⟨(Pm.rdKey l).toArray⟩)).grown hO2 (by simpa using nkg)
    clear hV1 hR1 hb1 hK1 hB1 hO2 fk1 ck1 lk1 fv1 cv1
    simp only [List.setIfInBounds_toArray, List.set_cons_zero] at hK2
    have fk2 := hK2.frozen
    have ck2 := hK2.cell
    have lk2 := hK2.lt
    have cv2 := hV2.cell
    have cb2 := hB2.cell
    have fb2 := hB2.frozen
    have cr2 := hR2.cell
    have fr2 := hR2.frozen
    go_wp2_with fail
    have hV3 := (hV2.far (p := ⟨k, 5, none⟩) (Ne.symm nkv) (.string ⟨(Pm.rdVal l).toArray⟩)).far (p := ⟨k, 6, none⟩) (Ne.symm nkv) (.int .i64 ((l.length : Int) - (Pm.rdEnd l : Int)))
    have hB3 := (hB2.far (p := ⟨k, 5, none⟩) (Ne.symm nkg) (.string ⟨(Pm.rdVal l).toArray⟩)).far (p := ⟨k, 6, none⟩) (Ne.symm nkg) (.int .i64 ((l.length : Int) - (Pm.rdEnd l : Int)))
    have hR3 := (hR2.far (p := ⟨k, 5, none⟩) (by show _ ≠ k; omega) (.string ⟨(Pm.rdVal l).toArray⟩)).far (p := ⟨k, 6, none⟩) (by show _ ≠ k; omega) (.int .i64 ((l.length : Int) - (Pm.rdEnd l : Int)))
    have hK3 := (hK2.set_ 5 (.string ⟨(Pm.rdVal l).toArray⟩)).set_ 6 (.int .i64 ((l.length : Int) - (Pm.rdEnd l : Int)))
    have hb3 := bs (bs hb2 (p := ⟨k, 5, none⟩) (by show _ ≤ k; omega) (.string ⟨(Pm.rdVal l).toArray⟩)) (p := ⟨k, 6, none⟩) (by show _ ≤ k; omega) (.int .i64 ((l.length : Int) - (Pm.rdEnd l : Int)))
    clear hV2 hB2 hR2 hK2 hb2 fk2 ck2 lk2 cv2 cb2 fb2 cr2 fr2 P1 P2
    generalize (w2.setCell ⟨k, 5, none⟩ (.string ⟨(Pm.rdVal l).toArray⟩)).setCell ⟨k, 6, none⟩ (.int .i64 ((l.length : Int) - (Pm.rdEnd l : Int))) = w3 at *
    simp only [List.setIfInBounds_toArray, List.set_cons_zero, List.set_cons_succ] at hK3
    have kle : (Pm.rdKey l).length ≤ 256 := Nat.le_trans (cutN_len _ _ _) (by have : Pm.rdKl l < 256 := getN_lt l 15 1; omega)
    have vle : (Pm.rdVal l).length ≤ 256 := Nat.le_trans (cutN_len _ _ _) (by have : Pm.rdVl l < 256 := getN_lt l _ 1; omega)
    have pgl : Pm.rdPg l < 4294967296 := getN_lt l 9 4
    have sll : Pm.rdSl l < 65536 := getN_lt l 13 2
    have txl : Pm.rdTx l < 256 ^ 8 := getN_lt l 1 8
    have TXL := Lib.hid txl
    clear txl
    obtain ⟨pd, hpd⟩ : ∃ pd : Nat, Pm.rdPad l = (pd : Int) := ⟨(Pm.rdPad l).toNat, by unfold Pm.may at HMM; have := HMM.out; simp at this; omega⟩
    have hpd' : (l.length : Int) - (Pm.rdEnd l : Int) = (pd : Int) := hpd
    rw [hpd'] at hK3 ⊢
    have HM := HMM.out
    rw [hpd] at HM
    have HE := HEE.out
    rw [hpd, Int.toNat_natCast] at HE
    have hml : (Pm.rdKey l).length ≤ 48 ∧ (Pm.rdVal l).length ≤ 96 ∧ pd ≤ 96 ∧ Pm.rdPg l ≤ 1024 := by unfold Pm.may at HM; simp at HM; omega
    have C := row_encode_yes (Pm.rdKey l) (Pm.rdVal l) (Pm.rdMark l) (Pm.rdTx l) (Pm.rdPg l) (Pm.rdSl l) pd w3 (by omega) (by omega) (by omega) (by omega) sll TXL.out HM
    rw [HE] at C
    have HC := Lib.hid C
    have HPD := Lib.hid hpd
    clear C HM HE hpd hpd' pgl sll
    refine HC.out.mono ?_
    rintro e w4 ⟨rfl, hb4⟩
    have hV4 := hV3.after hb4
    have hB4 := hB3.after hb4
    have hR4 := hR3.after hb4
    have hK4 := hK3.after hb4
    have hb5 := bt hb3 hb4
    clear hV3 hB3 hR3 hK3 hb3 hb4
    have ck4 := hK4.cell
    have cv4 := hV4.cell
    have cb4 := hB4.cell
    have cr4 := hR4.cell
    have fr4 := hR4.frozen
    have lk4 := hK4.lt
    have lr4 := hR4.lt
    go_wp2_with fail
    refine bodyPost_ret (v := .tuple #[.agg #[.string ⟨(Pm.rdKey l).toArray⟩, .bool (Pm.rdMark l), .int .u64 (Pm.rdTx l : Nat), .int .u32 (Pm.rdPg l : Nat), .int .u16 (Pm.rdSl l : Nat), .string ⟨(Pm.rdVal l).toArray⟩, .int .i64 (Pm.rdPad l)], .int .i64 0]) (by simp [results, Try.results6, go_sem, cr4, fr4, ck4, HPD.out]) rfl ⟨rfl, ?_⟩
    exact bs (bs (bs (bs (bs (bs (bs hb5 (Nat.le_refl _) _) (Nat.le_refl _) _) (Nat.le_refl _) _) (Nat.le_refl _) _) (Nat.le_refl _) _) (Nat.le_refl _) _) (Nat.le_refl _) _
set_option maxRecDepth 100000 in
set_option maxHeartbeats 4000000 in
theorem decode_no_may (l : List UInt8) (w : World) (hl : l.length ≤ 100000) (rk : Pm.rdOk l = true) (hm : Pm.may (Pm.rdKey l) (Pm.rdVal l) (Pm.rdPg l) (Pm.rdSl l) (Pm.rdPad l) = false) :
    Calls Try.prog 6 #[.string ⟨l.toArray⟩] w fun e w' => e = .returned (.tuple #[.agg #[.string ⟨#[]⟩, .bool false, .int .u64 0, .int .u32 0, .int .u16 0, .string ⟨#[]⟩, .int .i64 0], .int .i64 7]) ∧ Below w.heap.size w w' := by
  have n0 : Pm.getN l 0 1 < 256 := getN_lt l 0 1
  have n2 : Pm.getN l 9 4 < 4294967296 := getN_lt l 9 4
  have n3 : Pm.getN l 13 2 < 65536 := getN_lt l 13 2
  have hw2 : IntKind.u32.wrap (Pm.getN l 9 4 : Int) = Pm.getN l 9 4 := IntWalk.u32_in _ (by omega)
  have hw3 : IntKind.u16.wrap (Pm.getN l 13 2 : Int) = Pm.getN l 13 2 := IntWalk.u16_in _ (by omega)
  have HMM := Lib.hid hm
  clear hm
  go_enter Try.func6, Try.ntmps6
  go_upto_region 3 with fail
  go_cut [6] (Dec3 l w)
  case first =>
    obtain ⟨W, hW⟩ : ∃ W, W = (((w.alloc (.cells #[.string ⟨#[]⟩, .bool false, .int .u64 0, .int .u32 0, .int .u16 0, .string ⟨#[]⟩, .int .i64 0] 31)).alloc (.cells #[.string ⟨l.toArray⟩, .int .i64 0, .bool true] 69)).alloc (.cells #[.pointer (some ⟨w.heap.size + 1, 0, none⟩)] 65)) := ⟨_, rfl⟩
    have hR : Blk W w.heap.size 31 #[.string ⟨#[]⟩, .bool false, .int .u64 0, .int .u32 0, .int .u16 0, .string ⟨#[]⟩, .int .i64 0] := by
      rw [hW]; exact ((Blk.new w 31 _).alloc _).alloc _
    have hB0 : Blk W (w.heap.size + 1) 69 #[.string ⟨l.toArray⟩, .int .i64 ((0 : Nat) : Int), .bool true] := by
      have h := (Blk.new (w.alloc (.cells #[.string ⟨#[]⟩, .bool false, .int .u64 0, .int .u32 0, .int .u16 0, .string ⟨#[]⟩, .int .i64 0] 31)) 69 #[.string ⟨l.toArray⟩, .int .i64 0, .bool true]).alloc (.cells #[.pointer (some ⟨w.heap.size + 1, 0, none⟩)] 65)
      rw [hW]; simpa using h
    have hV : Blk W (w.heap.size + 1 + 1) 65 #[.pointer (some ⟨w.heap.size + 1, 0, none⟩)] := by
      have h := Blk.new ((w.alloc (.cells #[.string ⟨#[]⟩, .bool false, .int .u64 0, .int .u32 0, .int .u16 0, .string ⟨#[]⟩, .int .i64 0] 31)).alloc (.cells #[.string ⟨l.toArray⟩, .int .i64 0, .bool true] 69)) 65 #[.pointer (some ⟨w.heap.size + 1, 0, none⟩)]
      rw [hW]; simpa using h
    have hb : Below w.heap.size w W := by rw [hW]; exact ba (ba (ba (Below.refl _ _) _) _) _
    rw [← hW]
    clear hW
    have hS : St w W := ⟨hR, hV, hb⟩
    have cv : W.cell? ⟨w.heap.size + 1 + 1, 0, none⟩ = some (.pointer (some ⟨w.heap.size + 1, 0, none⟩)) := hV.cell 0
    have hz := hV.lt
    have nz := Nat.ne_of_gt hz
    have mz := Nat.ne_of_lt hz
    have N1 := Lib.hid (fun W hB => reading_num l 0 1 true (w.heap.size + 1) W (by omega) (by omega) (by omega) (by omega) hB)
    have N2 := Lib.hid (fun W hB => reading_num l 1 8 (true && Pm.okN l 0 1) (w.heap.size + 1) W (by omega) (by omega) (by omega) (by omega) hB)
    have N3 := Lib.hid (fun W hB => reading_num l 9 4 ((true && Pm.okN l 0 1) && Pm.okN l 1 8) (w.heap.size + 1) W (by omega) (by omega) (by omega) (by omega) hB)
    have N4 := Lib.hid (fun W hB => reading_num l 13 2 (((true && Pm.okN l 0 1) && Pm.okN l 1 8) && Pm.okN l 9 4) (w.heap.size + 1) W (by omega) (by omega) (by omega) (by omega) hB)
    go_region_held3 (fun w' => w'.cell? ⟨w.heap.size + 1 + 1, 0, none⟩ = some (.pointer (some ⟨w.heap.size + 1, 0, none⟩))) (go_keep)
      (first
       | (go_at_call_of 24 (Value.int .i64 1); ((refine (N1.out _ (by repeat (first | exact hB0 | apply Blk.drew | apply Blk.alloc))).mono ?_); rintro e w1 ⟨rfl, hB1, hO1⟩; obtain ⟨hc1, hf1, hz1⟩ := hO1.blk (w.heap.size + 1 + 1) (by first | omega | (simp; omega)) (by omega); have nz1 := Nat.ne_of_gt hz1; have mz1 := Nat.ne_of_lt hz1; (first | (have hS1 := St.only (St.drew hS) hO1) | (have hS1 := St.only hS hO1) | (have hS1 := St.only (St.alloc hS _) hO1) | (have hS1 := St.only (St.drew (St.alloc hS _)) hO1) | (have hS1 := St.only (St.alloc (St.drew hS) _) hO1)); first | (have k1 := chainK (Blk.new _ 31 _) hO1 (ne2 hz); obtain ⟨hK1, cK1, fK1, nK1, lK1⟩ := k1) | (have k1 := chainK (Blk.new _ 31 _).drew hO1 (ne2 hz); obtain ⟨hK1, cK1, fK1, nK1, lK1⟩ := k1) | skip))
       | (go_at_call_of 24 (Value.int .i64 8); ((refine (N2.out _ (by repeat (first | exact hB1 | apply Blk.drew | apply Blk.alloc))).mono ?_); rintro e w2 ⟨rfl, hB2, hO2⟩; obtain ⟨hc2, hf2, hz2⟩ := hO2.blk (w.heap.size + 1 + 1) (by first | omega | (simp; omega)) (by omega); have nz2 := Nat.ne_of_gt hz2; have mz2 := Nat.ne_of_lt hz2; (first | (have hS2 := St.only (St.drew hS1) hO2) | (have hS2 := St.only hS1 hO2) | (have hS2 := St.only (St.alloc hS1 _) hO2) | (have hS2 := St.only (St.drew (St.alloc hS1 _)) hO2) | (have hS2 := St.only (St.alloc (St.drew hS1) _) hO2)); first | (have k2 := chainK (Blk.new _ 31 _) hO2 (ne2 hz1); obtain ⟨hK2, cK2, fK2, nK2, lK2⟩ := k2) | (have k2 := chainK (Blk.new _ 31 _).drew hO2 (ne2 hz1); obtain ⟨hK2, cK2, fK2, nK2, lK2⟩ := k2) | (have k2 := chainK hK1 hO2 nK1; obtain ⟨hK2, cK2, fK2, nK2, lK2⟩ := k2) | skip))
       | (go_at_call_of 24 (Value.int .i64 4); ((refine (N3.out _ (by repeat (first | exact hB2 | apply Blk.drew | apply Blk.alloc))).mono ?_); rintro e w3 ⟨rfl, hB3, hO3⟩; obtain ⟨hc3, hf3, hz3⟩ := hO3.blk (w.heap.size + 1 + 1) (by first | omega | (simp; omega)) (by omega); have nz3 := Nat.ne_of_gt hz3; have mz3 := Nat.ne_of_lt hz3; (first | (have hS3 := St.only (St.drew hS2) hO3) | (have hS3 := St.only hS2 hO3) | (have hS3 := St.only (St.alloc hS2 _) hO3) | (have hS3 := St.only (St.drew (St.alloc hS2 _)) hO3) | (have hS3 := St.only (St.alloc (St.drew hS2) _) hO3)); first | (have k3 := chainK (Blk.new _ 31 _) hO3 (ne2 hz2); obtain ⟨hK3, cK3, fK3, nK3, lK3⟩ := k3) | (have k3 := chainK (Blk.new _ 31 _).drew hO3 (ne2 hz2); obtain ⟨hK3, cK3, fK3, nK3, lK3⟩ := k3) | (have k3 := chainK hK2 hO3 nK2; obtain ⟨hK3, cK3, fK3, nK3, lK3⟩ := k3) | skip))
       | (go_at_call_of 24 (Value.int .i64 2); ((refine (N4.out _ (by repeat (first | exact hB3 | apply Blk.drew | apply Blk.alloc))).mono ?_); rintro e w4 ⟨rfl, hB4, hO4⟩; obtain ⟨hc4, hf4, hz4⟩ := hO4.blk (w.heap.size + 1 + 1) (by first | omega | (simp; omega)) (by omega); have nz4 := Nat.ne_of_gt hz4; have mz4 := Nat.ne_of_lt hz4; (first | (have hS4 := St.only (St.drew hS3) hO4) | (have hS4 := St.only hS3 hO4) | (have hS4 := St.only (St.alloc hS3 _) hO4) | (have hS4 := St.only (St.drew (St.alloc hS3 _)) hO4) | (have hS4 := St.only (St.alloc (St.drew hS3) _) hO4)); first | (have k4 := chainK (Blk.new _ 31 _) hO4 (ne2 hz3); obtain ⟨hK4, cK4, fK4, nK4, lK4⟩ := k4) | (have k4 := chainK (Blk.new _ 31 _).drew hO4 (ne2 hz3); obtain ⟨hK4, cK4, fK4, nK4, lK4⟩ := k4) | (have k4 := chainK hK3 hO4 nK3; obtain ⟨hK4, cK4, fK4, nK4, lK4⟩ := k4) | skip)))
    all_goals (go_wp2_with fail; go_meet)
    · exact Dec3.last hz4 hS4 hB4
    · exact Dec3.before hz3 hS4 hK4 hB4
    · exact Dec3.before hz2 hS4 hK4 hB4
    · exact Dec3.before hz1 hS4 hK4 hB4
    · exact Dec3.before hz hS4 hK4 hB4
  case rest =>
    clear n0 n2 n3 hw2 hw3
    obtain ⟨k, rfl, hk, hK, hB, hS⟩ := hcut
    have hR := hS.1
    have hV := hS.2.1
    have hb := hS.2.2
    clear hS
    have P1 := Lib.hid (fun W hV hB => piece1 l w W hl hV hB)
    have P2 := Lib.hid (fun W hV hB => piece2 l w W hl hV hB)
    have hek : Pm.rdEnd l ≤ 1000 := by
      have kl1 : Pm.rdKl l < 256 := getN_lt l 15 1
      have vl1 : Pm.rdVl l < 256 := getN_lt l _ 1
      unfold Pm.rdEnd; omega
    have nkv : k ≠ w.heap.size + 1 + 1 := by omega
    have nkg : k ≠ w.heap.size + 1 := by omega
    go_wp2_with fail
    refine (P1.out wc hV hB).mono ?_
    rintro e w1 ⟨rfl, hB1, hO1⟩
    have hV1 := hV.grown hO1 (by simp)
    have hR1 := hR.grown hO1 (by simp)
    have hb1 := bo hb hO1 (by omega)
    have hK1 := hK.grown hO1 (by simpa using nkg)
    clear hV hR hb hK hB hO1
    have fk1 := hK1.frozen
    have ck1 := hK1.cell
    have lk1 := hK1.lt
    have fv1 := hV1.frozen
    have cv1 := hV1.cell
    go_wp2_with fail
    refine (P2.out _ (hV1.far (p := ⟨k, 0, none⟩) (Ne.symm nkv) _) (hB1.far (p := ⟨k, 0, none⟩) (Ne.symm nkg) _)).mono ?_
    rintro e w2 ⟨rfl, hB2, hO2⟩
    have hV2 := (hV1.far (p := ⟨k, 0, none⟩) (Ne.symm nkv) (.string ⟨(Pm.rdKey l).toArray⟩)).grown hO2 (by simp)
    have hR2 := (hR1.far (p := ⟨k, 0, none⟩) (by show _ ≠ k; omega) (.string ⟨(Pm.rdKey l).toArray⟩)).grown hO2 (by simp)
    have hb2 := bo (bs hb1 (p := ⟨k, 0, none⟩) (by show _ ≤ k; omega) (.string ⟨(Pm.rdKey l).toArray⟩)) hO2 (by omega)
    have hK2 := (hK1.set_ 0 (.string ⟨(Pm.rdKey l).toArray⟩)).grown hO2 (by simpa using nkg)
    clear hV1 hR1 hb1 hK1 hB1 hO2 fk1 ck1 lk1 fv1 cv1
    simp only [List.setIfInBounds_toArray, List.set_cons_zero] at hK2
    have fk2 := hK2.frozen
    have ck2 := hK2.cell
    have lk2 := hK2.lt
    have cv2 := hV2.cell
    have cb2 := hB2.cell
    have fb2 := hB2.frozen
    have cr2 := hR2.cell
    have fr2 := hR2.frozen
    go_wp2_with fail
    have hV3 := (hV2.far (p := ⟨k, 5, none⟩) (Ne.symm nkv) (.string ⟨(Pm.rdVal l).toArray⟩)).far (p := ⟨k, 6, none⟩) (Ne.symm nkv) (.int .i64 ((l.length : Int) - (Pm.rdEnd l : Int)))
    have hB3 := (hB2.far (p := ⟨k, 5, none⟩) (Ne.symm nkg) (.string ⟨(Pm.rdVal l).toArray⟩)).far (p := ⟨k, 6, none⟩) (Ne.symm nkg) (.int .i64 ((l.length : Int) - (Pm.rdEnd l : Int)))
    have hR3 := (hR2.far (p := ⟨k, 5, none⟩) (by show _ ≠ k; omega) (.string ⟨(Pm.rdVal l).toArray⟩)).far (p := ⟨k, 6, none⟩) (by show _ ≠ k; omega) (.int .i64 ((l.length : Int) - (Pm.rdEnd l : Int)))
    have hK3 := (hK2.set_ 5 (.string ⟨(Pm.rdVal l).toArray⟩)).set_ 6 (.int .i64 ((l.length : Int) - (Pm.rdEnd l : Int)))
    have hb3 := bs (bs hb2 (p := ⟨k, 5, none⟩) (by show _ ≤ k; omega) (.string ⟨(Pm.rdVal l).toArray⟩)) (p := ⟨k, 6, none⟩) (by show _ ≤ k; omega) (.int .i64 ((l.length : Int) - (Pm.rdEnd l : Int)))
    clear hV2 hB2 hR2 hK2 hb2 fk2 ck2 lk2 cv2 cb2 fb2 cr2 fr2 P1 P2
    generalize (w2.setCell ⟨k, 5, none⟩ (.string ⟨(Pm.rdVal l).toArray⟩)).setCell ⟨k, 6, none⟩ (.int .i64 ((l.length : Int) - (Pm.rdEnd l : Int))) = w3 at *
    simp only [List.setIfInBounds_toArray, List.set_cons_zero, List.set_cons_succ] at hK3
    have kle : (Pm.rdKey l).length ≤ 256 := Nat.le_trans (cutN_len _ _ _) (by have : Pm.rdKl l < 256 := getN_lt l 15 1; omega)
    have vle : (Pm.rdVal l).length ≤ 256 := Nat.le_trans (cutN_len _ _ _) (by have : Pm.rdVl l < 256 := getN_lt l _ 1; omega)
    have pgl : Pm.rdPg l < 4294967296 := getN_lt l 9 4
    have sll : Pm.rdSl l < 65536 := getN_lt l 13 2
    have txl : Pm.rdTx l < 256 ^ 8 := getN_lt l 1 8
    have TXL := Lib.hid txl
    clear txl
    have HC := Lib.hid (row_encode_no (Pm.rdKey l) (Pm.rdVal l) (Pm.rdMark l) (Pm.rdTx l) (Pm.rdPg l) (Pm.rdSl l) ((l.length : Int) - (Pm.rdEnd l : Int)) w3 (by omega) (by omega) (by omega) pgl sll HMM.out)
    refine HC.out.mono ?_
    rintro e w4 ⟨rfl, hb4⟩
    have hV4 := hV3.after hb4
    have hB4 := hB3.after hb4
    have hR4 := hR3.after hb4
    have hK4 := hK3.after hb4
    have hb5 := bt hb3 hb4
    clear hV3 hB3 hR3 hK3 hb3 hb4
    have ck4 := hK4.cell
    have cv4 := hV4.cell
    have cb4 := hB4.cell
    have cr4 := hR4.cell
    have fr4 := hR4.frozen
    have lk4 := hK4.lt
    have lr4 := hR4.lt
    go_wp2_with fail
    refine bodyPost_ret (v := .tuple #[.agg #[.string ⟨#[]⟩, .bool false, .int .u64 0, .int .u32 0, .int .u16 0, .string ⟨#[]⟩, .int .i64 0], .int .i64 7]) (by simp [results, Try.results6, go_sem, cr4, fr4, ck4]) rfl ⟨rfl, ?_⟩
    exact bs (bs (bs (bs (bs (bs (bs hb5 (Nat.le_refl _) _) (Nat.le_refl _) _) (Nat.le_refl _) _) (Nat.le_refl _) _) (Nat.le_refl _) _) (Nat.le_refl _) _) (Nat.le_refl _) _
set_option maxRecDepth 100000 in
set_option maxHeartbeats 4000000 in
theorem decode_no_both (l : List UInt8) (w : World) (hl : l.length ≤ 100000) (rk : Pm.rdOk l = false) (hm : Pm.may (Pm.rdKey l) (Pm.rdVal l) (Pm.rdPg l) (Pm.rdSl l) (Pm.rdPad l) = false) :
    Calls Try.prog 6 #[.string ⟨l.toArray⟩] w fun e w' => e = .returned (.tuple #[.agg #[.string ⟨#[]⟩, .bool false, .int .u64 0, .int .u32 0, .int .u16 0, .string ⟨#[]⟩, .int .i64 0], .int .i64 7]) ∧ Below w.heap.size w w' := by
  have n0 : Pm.getN l 0 1 < 256 := getN_lt l 0 1
  have n2 : Pm.getN l 9 4 < 4294967296 := getN_lt l 9 4
  have n3 : Pm.getN l 13 2 < 65536 := getN_lt l 13 2
  have hw2 : IntKind.u32.wrap (Pm.getN l 9 4 : Int) = Pm.getN l 9 4 := IntWalk.u32_in _ (by omega)
  have hw3 : IntKind.u16.wrap (Pm.getN l 13 2 : Int) = Pm.getN l 13 2 := IntWalk.u16_in _ (by omega)
  have HMM := Lib.hid hm
  clear hm
  go_enter Try.func6, Try.ntmps6
  go_upto_region 3 with fail
  go_cut [6] (Dec3 l w)
  case first =>
    obtain ⟨W, hW⟩ : ∃ W, W = (((w.alloc (.cells #[.string ⟨#[]⟩, .bool false, .int .u64 0, .int .u32 0, .int .u16 0, .string ⟨#[]⟩, .int .i64 0] 31)).alloc (.cells #[.string ⟨l.toArray⟩, .int .i64 0, .bool true] 69)).alloc (.cells #[.pointer (some ⟨w.heap.size + 1, 0, none⟩)] 65)) := ⟨_, rfl⟩
    have hR : Blk W w.heap.size 31 #[.string ⟨#[]⟩, .bool false, .int .u64 0, .int .u32 0, .int .u16 0, .string ⟨#[]⟩, .int .i64 0] := by
      rw [hW]; exact ((Blk.new w 31 _).alloc _).alloc _
    have hB0 : Blk W (w.heap.size + 1) 69 #[.string ⟨l.toArray⟩, .int .i64 ((0 : Nat) : Int), .bool true] := by
      have h := (Blk.new (w.alloc (.cells #[.string ⟨#[]⟩, .bool false, .int .u64 0, .int .u32 0, .int .u16 0, .string ⟨#[]⟩, .int .i64 0] 31)) 69 #[.string ⟨l.toArray⟩, .int .i64 0, .bool true]).alloc (.cells #[.pointer (some ⟨w.heap.size + 1, 0, none⟩)] 65)
      rw [hW]; simpa using h
    have hV : Blk W (w.heap.size + 1 + 1) 65 #[.pointer (some ⟨w.heap.size + 1, 0, none⟩)] := by
      have h := Blk.new ((w.alloc (.cells #[.string ⟨#[]⟩, .bool false, .int .u64 0, .int .u32 0, .int .u16 0, .string ⟨#[]⟩, .int .i64 0] 31)).alloc (.cells #[.string ⟨l.toArray⟩, .int .i64 0, .bool true] 69)) 65 #[.pointer (some ⟨w.heap.size + 1, 0, none⟩)]
      rw [hW]; simpa using h
    have hb : Below w.heap.size w W := by rw [hW]; exact ba (ba (ba (Below.refl _ _) _) _) _
    rw [← hW]
    clear hW
    have hS : St w W := ⟨hR, hV, hb⟩
    have cv : W.cell? ⟨w.heap.size + 1 + 1, 0, none⟩ = some (.pointer (some ⟨w.heap.size + 1, 0, none⟩)) := hV.cell 0
    have hz := hV.lt
    have nz := Nat.ne_of_gt hz
    have mz := Nat.ne_of_lt hz
    have N1 := Lib.hid (fun W hB => reading_num l 0 1 true (w.heap.size + 1) W (by omega) (by omega) (by omega) (by omega) hB)
    have N2 := Lib.hid (fun W hB => reading_num l 1 8 (true && Pm.okN l 0 1) (w.heap.size + 1) W (by omega) (by omega) (by omega) (by omega) hB)
    have N3 := Lib.hid (fun W hB => reading_num l 9 4 ((true && Pm.okN l 0 1) && Pm.okN l 1 8) (w.heap.size + 1) W (by omega) (by omega) (by omega) (by omega) hB)
    have N4 := Lib.hid (fun W hB => reading_num l 13 2 (((true && Pm.okN l 0 1) && Pm.okN l 1 8) && Pm.okN l 9 4) (w.heap.size + 1) W (by omega) (by omega) (by omega) (by omega) hB)
    go_region_held3 (fun w' => w'.cell? ⟨w.heap.size + 1 + 1, 0, none⟩ = some (.pointer (some ⟨w.heap.size + 1, 0, none⟩))) (go_keep)
      (first
       | (go_at_call_of 24 (Value.int .i64 1); ((refine (N1.out _ (by repeat (first | exact hB0 | apply Blk.drew | apply Blk.alloc))).mono ?_); rintro e w1 ⟨rfl, hB1, hO1⟩; obtain ⟨hc1, hf1, hz1⟩ := hO1.blk (w.heap.size + 1 + 1) (by first | omega | (simp; omega)) (by omega); have nz1 := Nat.ne_of_gt hz1; have mz1 := Nat.ne_of_lt hz1; (first | (have hS1 := St.only (St.drew hS) hO1) | (have hS1 := St.only hS hO1) | (have hS1 := St.only (St.alloc hS _) hO1) | (have hS1 := St.only (St.drew (St.alloc hS _)) hO1) | (have hS1 := St.only (St.alloc (St.drew hS) _) hO1)); first | (have k1 := chainK (Blk.new _ 31 _) hO1 (ne2 hz); obtain ⟨hK1, cK1, fK1, nK1, lK1⟩ := k1) | (have k1 := chainK (Blk.new _ 31 _).drew hO1 (ne2 hz); obtain ⟨hK1, cK1, fK1, nK1, lK1⟩ := k1) | skip))
       | (go_at_call_of 24 (Value.int .i64 8); ((refine (N2.out _ (by repeat (first | exact hB1 | apply Blk.drew | apply Blk.alloc))).mono ?_); rintro e w2 ⟨rfl, hB2, hO2⟩; obtain ⟨hc2, hf2, hz2⟩ := hO2.blk (w.heap.size + 1 + 1) (by first | omega | (simp; omega)) (by omega); have nz2 := Nat.ne_of_gt hz2; have mz2 := Nat.ne_of_lt hz2; (first | (have hS2 := St.only (St.drew hS1) hO2) | (have hS2 := St.only hS1 hO2) | (have hS2 := St.only (St.alloc hS1 _) hO2) | (have hS2 := St.only (St.drew (St.alloc hS1 _)) hO2) | (have hS2 := St.only (St.alloc (St.drew hS1) _) hO2)); first | (have k2 := chainK (Blk.new _ 31 _) hO2 (ne2 hz1); obtain ⟨hK2, cK2, fK2, nK2, lK2⟩ := k2) | (have k2 := chainK (Blk.new _ 31 _).drew hO2 (ne2 hz1); obtain ⟨hK2, cK2, fK2, nK2, lK2⟩ := k2) | (have k2 := chainK hK1 hO2 nK1; obtain ⟨hK2, cK2, fK2, nK2, lK2⟩ := k2) | skip))
       | (go_at_call_of 24 (Value.int .i64 4); ((refine (N3.out _ (by repeat (first | exact hB2 | apply Blk.drew | apply Blk.alloc))).mono ?_); rintro e w3 ⟨rfl, hB3, hO3⟩; obtain ⟨hc3, hf3, hz3⟩ := hO3.blk (w.heap.size + 1 + 1) (by first | omega | (simp; omega)) (by omega); have nz3 := Nat.ne_of_gt hz3; have mz3 := Nat.ne_of_lt hz3; (first | (have hS3 := St.only (St.drew hS2) hO3) | (have hS3 := St.only hS2 hO3) | (have hS3 := St.only (St.alloc hS2 _) hO3) | (have hS3 := St.only (St.drew (St.alloc hS2 _)) hO3) | (have hS3 := St.only (St.alloc (St.drew hS2) _) hO3)); first | (have k3 := chainK (Blk.new _ 31 _) hO3 (ne2 hz2); obtain ⟨hK3, cK3, fK3, nK3, lK3⟩ := k3) | (have k3 := chainK (Blk.new _ 31 _).drew hO3 (ne2 hz2); obtain ⟨hK3, cK3, fK3, nK3, lK3⟩ := k3) | (have k3 := chainK hK2 hO3 nK2; obtain ⟨hK3, cK3, fK3, nK3, lK3⟩ := k3) | skip))
       | (go_at_call_of 24 (Value.int .i64 2); ((refine (N4.out _ (by repeat (first | exact hB3 | apply Blk.drew | apply Blk.alloc))).mono ?_); rintro e w4 ⟨rfl, hB4, hO4⟩; obtain ⟨hc4, hf4, hz4⟩ := hO4.blk (w.heap.size + 1 + 1) (by first | omega | (simp; omega)) (by omega); have nz4 := Nat.ne_of_gt hz4; have mz4 := Nat.ne_of_lt hz4; (first | (have hS4 := St.only (St.drew hS3) hO4) | (have hS4 := St.only hS3 hO4) | (have hS4 := St.only (St.alloc hS3 _) hO4) | (have hS4 := St.only (St.drew (St.alloc hS3 _)) hO4) | (have hS4 := St.only (St.alloc (St.drew hS3) _) hO4)); first | (have k4 := chainK (Blk.new _ 31 _) hO4 (ne2 hz3); obtain ⟨hK4, cK4, fK4, nK4, lK4⟩ := k4) | (have k4 := chainK (Blk.new _ 31 _).drew hO4 (ne2 hz3); obtain ⟨hK4, cK4, fK4, nK4, lK4⟩ := k4) | (have k4 := chainK hK3 hO4 nK3; obtain ⟨hK4, cK4, fK4, nK4, lK4⟩ := k4) | skip)))
    all_goals (go_wp2_with fail; go_meet)
    · exact Dec3.last hz4 hS4 hB4
    · exact Dec3.before hz3 hS4 hK4 hB4
    · exact Dec3.before hz2 hS4 hK4 hB4
    · exact Dec3.before hz1 hS4 hK4 hB4
    · exact Dec3.before hz hS4 hK4 hB4
  case rest =>
    clear n0 n2 n3 hw2 hw3
    obtain ⟨k, rfl, hk, hK, hB, hS⟩ := hcut
    have hR := hS.1
    have hV := hS.2.1
    have hb := hS.2.2
    clear hS
    have P1 := Lib.hid (fun W hV hB => piece1 l w W hl hV hB)
    have P2 := Lib.hid (fun W hV hB => piece2 l w W hl hV hB)
    have hek : Pm.rdEnd l ≤ 1000 := by
      have kl1 : Pm.rdKl l < 256 := getN_lt l 15 1
      have vl1 : Pm.rdVl l < 256 := getN_lt l _ 1
      unfold Pm.rdEnd; omega
    have nkv : k ≠ w.heap.size + 1 + 1 := by omega
    have nkg : k ≠ w.heap.size + 1 := by omega
    go_wp2_with fail
    refine (P1.out wc hV hB).mono ?_
    rintro e w1 ⟨rfl, hB1, hO1⟩
    have hV1 := hV.grown hO1 (by simp)
    have hR1 := hR.grown hO1 (by simp)
    have hb1 := bo hb hO1 (by omega)
    have hK1 := hK.grown hO1 (by simpa using nkg)
    clear hV hR hb hK hB hO1
    have fk1 := hK1.frozen
    have ck1 := hK1.cell
    have lk1 := hK1.lt
    have fv1 := hV1.frozen
    have cv1 := hV1.cell
    go_wp2_with fail
    refine (P2.out _ (hV1.far (p := ⟨k, 0, none⟩) (Ne.symm nkv) _) (hB1.far (p := ⟨k, 0, none⟩) (Ne.symm nkg) _)).mono ?_
    rintro e w2 ⟨rfl, hB2, hO2⟩
    have hV2 := (hV1.far (p := ⟨k, 0, none⟩) (Ne.symm nkv) (.string ⟨(Pm.rdKey l).toArray⟩)).grown hO2 (by simp)
    have hR2 := (hR1.far (p := ⟨k, 0, none⟩) (by show _ ≠ k; omega) (.string ⟨(Pm.rdKey l).toArray⟩)).grown hO2 (by simp)
    have hb2 := bo (bs hb1 (p := ⟨k, 0, none⟩) (by show _ ≤ k; omega) (.string ⟨(Pm.rdKey l).toArray⟩)) hO2 (by omega)
    have hK2 := (hK1.set_ 0 (.string ⟨(Pm.rdKey l).toArray⟩)).grown hO2 (by simpa using nkg)
    clear hV1 hR1 hb1 hK1 hB1 hO2 fk1 ck1 lk1 fv1 cv1
    simp only [List.setIfInBounds_toArray, List.set_cons_zero] at hK2
    have fk2 := hK2.frozen
    have ck2 := hK2.cell
    have lk2 := hK2.lt
    have cv2 := hV2.cell
    have cb2 := hB2.cell
    have fb2 := hB2.frozen
    have cr2 := hR2.cell
    have fr2 := hR2.frozen
    go_wp2_with fail
    have hV3 := (hV2.far (p := ⟨k, 5, none⟩) (Ne.symm nkv) (.string ⟨(Pm.rdVal l).toArray⟩)).far (p := ⟨k, 6, none⟩) (Ne.symm nkv) (.int .i64 ((l.length : Int) - (Pm.rdEnd l : Int)))
    have hB3 := (hB2.far (p := ⟨k, 5, none⟩) (Ne.symm nkg) (.string ⟨(Pm.rdVal l).toArray⟩)).far (p := ⟨k, 6, none⟩) (Ne.symm nkg) (.int .i64 ((l.length : Int) - (Pm.rdEnd l : Int)))
    have hR3 := (hR2.far (p := ⟨k, 5, none⟩) (by show _ ≠ k; omega) (.string ⟨(Pm.rdVal l).toArray⟩)).far (p := ⟨k, 6, none⟩) (by show _ ≠ k; omega) (.int .i64 ((l.length : Int) - (Pm.rdEnd l : Int)))
    have hK3 := (hK2.set_ 5 (.string ⟨(Pm.rdVal l).toArray⟩)).set_ 6 (.int .i64 ((l.length : Int) - (Pm.rdEnd l : Int)))
    have hb3 := bs (bs hb2 (p := ⟨k, 5, none⟩) (by show _ ≤ k; omega) (.string ⟨(Pm.rdVal l).toArray⟩)) (p := ⟨k, 6, none⟩) (by show _ ≤ k; omega) (.int .i64 ((l.length : Int) - (Pm.rdEnd l : Int)))
    clear hV2 hB2 hR2 hK2 hb2 fk2 ck2 lk2 cv2 cb2 fb2 cr2 fr2 P1 P2
    generalize (w2.setCell ⟨k, 5, none⟩ (.string ⟨(Pm.rdVal l).toArray⟩)).setCell ⟨k, 6, none⟩ (.int .i64 ((l.length : Int) - (Pm.rdEnd l : Int))) = w3 at *
    simp only [List.setIfInBounds_toArray, List.set_cons_zero, List.set_cons_succ] at hK3
    have kle : (Pm.rdKey l).length ≤ 256 := Nat.le_trans (cutN_len _ _ _) (by have : Pm.rdKl l < 256 := getN_lt l 15 1; omega)
    have vle : (Pm.rdVal l).length ≤ 256 := Nat.le_trans (cutN_len _ _ _) (by have : Pm.rdVl l < 256 := getN_lt l _ 1; omega)
    have pgl : Pm.rdPg l < 4294967296 := getN_lt l 9 4
    have sll : Pm.rdSl l < 65536 := getN_lt l 13 2
    have txl : Pm.rdTx l < 256 ^ 8 := getN_lt l 1 8
    have TXL := Lib.hid txl
    clear txl
    have HC := Lib.hid (row_encode_no (Pm.rdKey l) (Pm.rdVal l) (Pm.rdMark l) (Pm.rdTx l) (Pm.rdPg l) (Pm.rdSl l) ((l.length : Int) - (Pm.rdEnd l : Int)) w3 (by omega) (by omega) (by omega) pgl sll HMM.out)
    refine HC.out.mono ?_
    rintro e w4 ⟨rfl, hb4⟩
    have hV4 := hV3.after hb4
    have hB4 := hB3.after hb4
    have hR4 := hR3.after hb4
    have hK4 := hK3.after hb4
    have hb5 := bt hb3 hb4
    clear hV3 hB3 hR3 hK3 hb3 hb4
    have ck4 := hK4.cell
    have cv4 := hV4.cell
    have cb4 := hB4.cell
    have cr4 := hR4.cell
    have fr4 := hR4.frozen
    have lk4 := hK4.lt
    have lr4 := hR4.lt
    go_wp2_with fail
    refine bodyPost_ret (v := .tuple #[.agg #[.string ⟨#[]⟩, .bool false, .int .u64 0, .int .u32 0, .int .u16 0, .string ⟨#[]⟩, .int .i64 0], .int .i64 7]) (by simp [results, Try.results6, go_sem, cr4, fr4, ck4]) rfl ⟨rfl, ?_⟩
    exact bs (bs (bs (bs (bs (bs (bs hb5 (Nat.le_refl _) _) (Nat.le_refl _) _) (Nat.le_refl _) _) (Nat.le_refl _) _) (Nat.le_refl _) _) (Nat.le_refl _) _) (Nat.le_refl _) _
set_option maxRecDepth 100000 in
set_option maxHeartbeats 4000000 in
theorem decode_no_ok (l : List UInt8) (w : World) (hl : l.length ≤ 100000) (rk : Pm.rdOk l = false) (hm : Pm.may (Pm.rdKey l) (Pm.rdVal l) (Pm.rdPg l) (Pm.rdSl l) (Pm.rdPad l) = true) :
    Calls Try.prog 6 #[.string ⟨l.toArray⟩] w fun e w' => e = .returned (.tuple #[.agg #[.string ⟨#[]⟩, .bool false, .int .u64 0, .int .u32 0, .int .u16 0, .string ⟨#[]⟩, .int .i64 0], .int .i64 7]) ∧ Below w.heap.size w w' := by
  have n0 : Pm.getN l 0 1 < 256 := getN_lt l 0 1
  have n2 : Pm.getN l 9 4 < 4294967296 := getN_lt l 9 4
  have n3 : Pm.getN l 13 2 < 65536 := getN_lt l 13 2
  have hw2 : IntKind.u32.wrap (Pm.getN l 9 4 : Int) = Pm.getN l 9 4 := IntWalk.u32_in _ (by omega)
  have hw3 : IntKind.u16.wrap (Pm.getN l 13 2 : Int) = Pm.getN l 13 2 := IntWalk.u16_in _ (by omega)
  have HMM := Lib.hid hm
  clear hm
  go_enter Try.func6, Try.ntmps6
  go_upto_region 3 with fail
  go_cut [6] (Dec3 l w)
  case first =>
    obtain ⟨W, hW⟩ : ∃ W, W = (((w.alloc (.cells #[.string ⟨#[]⟩, .bool false, .int .u64 0, .int .u32 0, .int .u16 0, .string ⟨#[]⟩, .int .i64 0] 31)).alloc (.cells #[.string ⟨l.toArray⟩, .int .i64 0, .bool true] 69)).alloc (.cells #[.pointer (some ⟨w.heap.size + 1, 0, none⟩)] 65)) := ⟨_, rfl⟩
    have hR : Blk W w.heap.size 31 #[.string ⟨#[]⟩, .bool false, .int .u64 0, .int .u32 0, .int .u16 0, .string ⟨#[]⟩, .int .i64 0] := by
      rw [hW]; exact ((Blk.new w 31 _).alloc _).alloc _
    have hB0 : Blk W (w.heap.size + 1) 69 #[.string ⟨l.toArray⟩, .int .i64 ((0 : Nat) : Int), .bool true] := by
      have h := (Blk.new (w.alloc (.cells #[.string ⟨#[]⟩, .bool false, .int .u64 0, .int .u32 0, .int .u16 0, .string ⟨#[]⟩, .int .i64 0] 31)) 69 #[.string ⟨l.toArray⟩, .int .i64 0, .bool true]).alloc (.cells #[.pointer (some ⟨w.heap.size + 1, 0, none⟩)] 65)
      rw [hW]; simpa using h
    have hV : Blk W (w.heap.size + 1 + 1) 65 #[.pointer (some ⟨w.heap.size + 1, 0, none⟩)] := by
      have h := Blk.new ((w.alloc (.cells #[.string ⟨#[]⟩, .bool false, .int .u64 0, .int .u32 0, .int .u16 0, .string ⟨#[]⟩, .int .i64 0] 31)).alloc (.cells #[.string ⟨l.toArray⟩, .int .i64 0, .bool true] 69)) 65 #[.pointer (some ⟨w.heap.size + 1, 0, none⟩)]
      rw [hW]; simpa using h
    have hb : Below w.heap.size w W := by rw [hW]; exact ba (ba (ba (Below.refl _ _) _) _) _
    rw [← hW]
    clear hW
    have hS : St w W := ⟨hR, hV, hb⟩
    have cv : W.cell? ⟨w.heap.size + 1 + 1, 0, none⟩ = some (.pointer (some ⟨w.heap.size + 1, 0, none⟩)) := hV.cell 0
    have hz := hV.lt
    have nz := Nat.ne_of_gt hz
    have mz := Nat.ne_of_lt hz
    have N1 := Lib.hid (fun W hB => reading_num l 0 1 true (w.heap.size + 1) W (by omega) (by omega) (by omega) (by omega) hB)
    have N2 := Lib.hid (fun W hB => reading_num l 1 8 (true && Pm.okN l 0 1) (w.heap.size + 1) W (by omega) (by omega) (by omega) (by omega) hB)
    have N3 := Lib.hid (fun W hB => reading_num l 9 4 ((true && Pm.okN l 0 1) && Pm.okN l 1 8) (w.heap.size + 1) W (by omega) (by omega) (by omega) (by omega) hB)
    have N4 := Lib.hid (fun W hB => reading_num l 13 2 (((true && Pm.okN l 0 1) && Pm.okN l 1 8) && Pm.okN l 9 4) (w.heap.size + 1) W (by omega) (by omega) (by omega) (by omega) hB)
    go_region_held3 (fun w' => w'.cell? ⟨w.heap.size + 1 + 1, 0, none⟩ = some (.pointer (some ⟨w.heap.size + 1, 0, none⟩))) (go_keep)
      (first
       | (go_at_call_of 24 (Value.int .i64 1); ((refine (N1.out _ (by repeat (first | exact hB0 | apply Blk.drew | apply Blk.alloc))).mono ?_); rintro e w1 ⟨rfl, hB1, hO1⟩; obtain ⟨hc1, hf1, hz1⟩ := hO1.blk (w.heap.size + 1 + 1) (by first | omega | (simp; omega)) (by omega); have nz1 := Nat.ne_of_gt hz1; have mz1 := Nat.ne_of_lt hz1; (first | (have hS1 := St.only (St.drew hS) hO1) | (have hS1 := St.only hS hO1) | (have hS1 := St.only (St.alloc hS _) hO1) | (have hS1 := St.only (St.drew (St.alloc hS _)) hO1) | (have hS1 := St.only (St.alloc (St.drew hS) _) hO1)); first | (have k1 := chainK (Blk.new _ 31 _) hO1 (ne2 hz); obtain ⟨hK1, cK1, fK1, nK1, lK1⟩ := k1) | (have k1 := chainK (Blk.new _ 31 _).drew hO1 (ne2 hz); obtain ⟨hK1, cK1, fK1, nK1, lK1⟩ := k1) | skip))
       | (go_at_call_of 24 (Value.int .i64 8); ((refine (N2.out _ (by repeat (first | exact hB1 | apply Blk.drew | apply Blk.alloc))).mono ?_); rintro e w2 ⟨rfl, hB2, hO2⟩; obtain ⟨hc2, hf2, hz2⟩ := hO2.blk (w.heap.size + 1 + 1) (by first | omega | (simp; omega)) (by omega); have nz2 := Nat.ne_of_gt hz2; have mz2 := Nat.ne_of_lt hz2; (first | (have hS2 := St.only (St.drew hS1) hO2) | (have hS2 := St.only hS1 hO2) | (have hS2 := St.only (St.alloc hS1 _) hO2) | (have hS2 := St.only (St.drew (St.alloc hS1 _)) hO2) | (have hS2 := St.only (St.alloc (St.drew hS1) _) hO2)); first | (have k2 := chainK (Blk.new _ 31 _) hO2 (ne2 hz1); obtain ⟨hK2, cK2, fK2, nK2, lK2⟩ := k2) | (have k2 := chainK (Blk.new _ 31 _).drew hO2 (ne2 hz1); obtain ⟨hK2, cK2, fK2, nK2, lK2⟩ := k2) | (have k2 := chainK hK1 hO2 nK1; obtain ⟨hK2, cK2, fK2, nK2, lK2⟩ := k2) | skip))
       | (go_at_call_of 24 (Value.int .i64 4); ((refine (N3.out _ (by repeat (first | exact hB2 | apply Blk.drew | apply Blk.alloc))).mono ?_); rintro e w3 ⟨rfl, hB3, hO3⟩; obtain ⟨hc3, hf3, hz3⟩ := hO3.blk (w.heap.size + 1 + 1) (by first | omega | (simp; omega)) (by omega); have nz3 := Nat.ne_of_gt hz3; have mz3 := Nat.ne_of_lt hz3; (first | (have hS3 := St.only (St.drew hS2) hO3) | (have hS3 := St.only hS2 hO3) | (have hS3 := St.only (St.alloc hS2 _) hO3) | (have hS3 := St.only (St.drew (St.alloc hS2 _)) hO3) | (have hS3 := St.only (St.alloc (St.drew hS2) _) hO3)); first | (have k3 := chainK (Blk.new _ 31 _) hO3 (ne2 hz2); obtain ⟨hK3, cK3, fK3, nK3, lK3⟩ := k3) | (have k3 := chainK (Blk.new _ 31 _).drew hO3 (ne2 hz2); obtain ⟨hK3, cK3, fK3, nK3, lK3⟩ := k3) | (have k3 := chainK hK2 hO3 nK2; obtain ⟨hK3, cK3, fK3, nK3, lK3⟩ := k3) | skip))
       | (go_at_call_of 24 (Value.int .i64 2); ((refine (N4.out _ (by repeat (first | exact hB3 | apply Blk.drew | apply Blk.alloc))).mono ?_); rintro e w4 ⟨rfl, hB4, hO4⟩; obtain ⟨hc4, hf4, hz4⟩ := hO4.blk (w.heap.size + 1 + 1) (by first | omega | (simp; omega)) (by omega); have nz4 := Nat.ne_of_gt hz4; have mz4 := Nat.ne_of_lt hz4; (first | (have hS4 := St.only (St.drew hS3) hO4) | (have hS4 := St.only hS3 hO4) | (have hS4 := St.only (St.alloc hS3 _) hO4) | (have hS4 := St.only (St.drew (St.alloc hS3 _)) hO4) | (have hS4 := St.only (St.alloc (St.drew hS3) _) hO4)); first | (have k4 := chainK (Blk.new _ 31 _) hO4 (ne2 hz3); obtain ⟨hK4, cK4, fK4, nK4, lK4⟩ := k4) | (have k4 := chainK (Blk.new _ 31 _).drew hO4 (ne2 hz3); obtain ⟨hK4, cK4, fK4, nK4, lK4⟩ := k4) | (have k4 := chainK hK3 hO4 nK3; obtain ⟨hK4, cK4, fK4, nK4, lK4⟩ := k4) | skip)))
    all_goals (go_wp2_with fail; go_meet)
    · exact Dec3.last hz4 hS4 hB4
    · exact Dec3.before hz3 hS4 hK4 hB4
    · exact Dec3.before hz2 hS4 hK4 hB4
    · exact Dec3.before hz1 hS4 hK4 hB4
    · exact Dec3.before hz hS4 hK4 hB4
  case rest =>
    clear n0 n2 n3 hw2 hw3
    obtain ⟨k, rfl, hk, hK, hB, hS⟩ := hcut
    have hR := hS.1
    have hV := hS.2.1
    have hb := hS.2.2
    clear hS
    have P1 := Lib.hid (fun W hV hB => piece1 l w W hl hV hB)
    have P2 := Lib.hid (fun W hV hB => piece2 l w W hl hV hB)
    have hek : Pm.rdEnd l ≤ 1000 := by
      have kl1 : Pm.rdKl l < 256 := getN_lt l 15 1
      have vl1 : Pm.rdVl l < 256 := getN_lt l _ 1
      unfold Pm.rdEnd; omega
    have nkv : k ≠ w.heap.size + 1 + 1 := by omega
    have nkg : k ≠ w.heap.size + 1 := by omega
    go_wp2_with fail
    refine (P1.out wc hV hB).mono ?_
    rintro e w1 ⟨rfl, hB1, hO1⟩
    have hV1 := hV.grown hO1 (by simp)
    have hR1 := hR.grown hO1 (by simp)
    have hb1 := bo hb hO1 (by omega)
    have hK1 := hK.grown hO1 (by simpa using nkg)
    clear hV hR hb hK hB hO1
    have fk1 := hK1.frozen
    have ck1 := hK1.cell
    have lk1 := hK1.lt
    have fv1 := hV1.frozen
    have cv1 := hV1.cell
    go_wp2_with fail
    refine (P2.out _ (hV1.far (p := ⟨k, 0, none⟩) (Ne.symm nkv) _) (hB1.far (p := ⟨k, 0, none⟩) (Ne.symm nkg) _)).mono ?_
    rintro e w2 ⟨rfl, hB2, hO2⟩
    have hV2 := (hV1.far (p := ⟨k, 0, none⟩) (Ne.symm nkv) (.string ⟨(Pm.rdKey l).toArray⟩)).grown hO2 (by simp)
    have hR2 := (hR1.far (p := ⟨k, 0, none⟩) (by show _ ≠ k; omega) (.string ⟨(Pm.rdKey l).toArray⟩)).grown hO2 (by simp)
    have hb2 := bo (bs hb1 (p := ⟨k, 0, none⟩) (by show _ ≤ k; omega) (.string ⟨(Pm.rdKey l).toArray⟩)) hO2 (by omega)
    have hK2 := (hK1.set_ 0 (.string ⟨(Pm.rdKey l).toArray⟩)).grown hO2 (by simpa using nkg)
    clear hV1 hR1 hb1 hK1 hB1 hO2 fk1 ck1 lk1 fv1 cv1
    simp only [List.setIfInBounds_toArray, List.set_cons_zero] at hK2
    have fk2 := hK2.frozen
    have ck2 := hK2.cell
    have lk2 := hK2.lt
    have cv2 := hV2.cell
    have cb2 := hB2.cell
    have fb2 := hB2.frozen
    have cr2 := hR2.cell
    have fr2 := hR2.frozen
    go_wp2_with fail
    have hV3 := (hV2.far (p := ⟨k, 5, none⟩) (Ne.symm nkv) (.string ⟨(Pm.rdVal l).toArray⟩)).far (p := ⟨k, 6, none⟩) (Ne.symm nkv) (.int .i64 ((l.length : Int) - (Pm.rdEnd l : Int)))
    have hB3 := (hB2.far (p := ⟨k, 5, none⟩) (Ne.symm nkg) (.string ⟨(Pm.rdVal l).toArray⟩)).far (p := ⟨k, 6, none⟩) (Ne.symm nkg) (.int .i64 ((l.length : Int) - (Pm.rdEnd l : Int)))
    have hR3 := (hR2.far (p := ⟨k, 5, none⟩) (by show _ ≠ k; omega) (.string ⟨(Pm.rdVal l).toArray⟩)).far (p := ⟨k, 6, none⟩) (by show _ ≠ k; omega) (.int .i64 ((l.length : Int) - (Pm.rdEnd l : Int)))
    have hK3 := (hK2.set_ 5 (.string ⟨(Pm.rdVal l).toArray⟩)).set_ 6 (.int .i64 ((l.length : Int) - (Pm.rdEnd l : Int)))
    have hb3 := bs (bs hb2 (p := ⟨k, 5, none⟩) (by show _ ≤ k; omega) (.string ⟨(Pm.rdVal l).toArray⟩)) (p := ⟨k, 6, none⟩) (by show _ ≤ k; omega) (.int .i64 ((l.length : Int) - (Pm.rdEnd l : Int)))
    clear hV2 hB2 hR2 hK2 hb2 fk2 ck2 lk2 cv2 cb2 fb2 cr2 fr2 P1 P2
    generalize (w2.setCell ⟨k, 5, none⟩ (.string ⟨(Pm.rdVal l).toArray⟩)).setCell ⟨k, 6, none⟩ (.int .i64 ((l.length : Int) - (Pm.rdEnd l : Int))) = w3 at *
    simp only [List.setIfInBounds_toArray, List.set_cons_zero, List.set_cons_succ] at hK3
    have kle : (Pm.rdKey l).length ≤ 256 := Nat.le_trans (cutN_len _ _ _) (by have : Pm.rdKl l < 256 := getN_lt l 15 1; omega)
    have vle : (Pm.rdVal l).length ≤ 256 := Nat.le_trans (cutN_len _ _ _) (by have : Pm.rdVl l < 256 := getN_lt l _ 1; omega)
    have pgl : Pm.rdPg l < 4294967296 := getN_lt l 9 4
    have sll : Pm.rdSl l < 65536 := getN_lt l 13 2
    have txl : Pm.rdTx l < 256 ^ 8 := getN_lt l 1 8
    have TXL := Lib.hid txl
    clear txl
    obtain ⟨pd, hpd⟩ : ∃ pd : Nat, Pm.rdPad l = (pd : Int) := ⟨(Pm.rdPad l).toNat, by unfold Pm.may at HMM; have := HMM.out; simp at this; omega⟩
    have hpd' : (l.length : Int) - (Pm.rdEnd l : Int) = (pd : Int) := hpd
    rw [hpd'] at hK3 ⊢
    have HM := HMM.out
    rw [hpd] at HM
    have hml : (Pm.rdKey l).length ≤ 48 ∧ (Pm.rdVal l).length ≤ 96 ∧ pd ≤ 96 ∧ Pm.rdPg l ≤ 1024 := by unfold Pm.may at HM; simp at HM; omega
    have C := row_encode_yes (Pm.rdKey l) (Pm.rdVal l) (Pm.rdMark l) (Pm.rdTx l) (Pm.rdPg l) (Pm.rdSl l) pd w3 (by omega) (by omega) (by omega) (by omega) sll TXL.out HM
    have HC := Lib.hid C
    have HPD := Lib.hid hpd
    clear C HM hpd hpd' pgl sll
    refine HC.out.mono ?_
    rintro e w4 ⟨rfl, hb4⟩
    have hV4 := hV3.after hb4
    have hB4 := hB3.after hb4
    have hR4 := hR3.after hb4
    have hK4 := hK3.after hb4
    have hb5 := bt hb3 hb4
    clear hV3 hB3 hR3 hK3 hb3 hb4
    have ck4 := hK4.cell
    have cv4 := hV4.cell
    have cb4 := hB4.cell
    have cr4 := hR4.cell
    have fr4 := hR4.frozen
    have lk4 := hK4.lt
    have lr4 := hR4.lt
    go_wp2_with fail
    refine bodyPost_ret (v := .tuple #[.agg #[.string ⟨#[]⟩, .bool false, .int .u64 0, .int .u32 0, .int .u16 0, .string ⟨#[]⟩, .int .i64 0], .int .i64 7]) (by simp [results, Try.results6, go_sem, cr4, fr4, ck4]) rfl ⟨rfl, ?_⟩
    exact bs (bs (bs (bs (bs (bs (bs hb5 (Nat.le_refl _) _) (Nat.le_refl _) _) (Nat.le_refl _) _) (Nat.le_refl _) _) (Nat.le_refl _) _) (Nat.le_refl _) _) (Nat.le_refl _) _
set_option maxRecDepth 100000 in
set_option maxHeartbeats 4000000 in
theorem decode_no_enc (l : List UInt8) (w : World) (hl : l.length ≤ 100000) (rk : Pm.rdOk l = true) (hm : Pm.may (Pm.rdKey l) (Pm.rdVal l) (Pm.rdPg l) (Pm.rdSl l) (Pm.rdPad l) = true) (he : ¬ Pm.enc (Pm.rdKey l) (Pm.rdVal l) (Pm.rdMark l) (Pm.rdTx l) (Pm.rdPg l) (Pm.rdSl l) (Pm.rdPad l).toNat = l) :
    Calls Try.prog 6 #[.string ⟨l.toArray⟩] w fun e w' => e = .returned (.tuple #[.agg #[.string ⟨#[]⟩, .bool false, .int .u64 0, .int .u32 0, .int .u16 0, .string ⟨#[]⟩, .int .i64 0], .int .i64 7]) ∧ Below w.heap.size w w' := by
  have n0 : Pm.getN l 0 1 < 256 := getN_lt l 0 1
  have n2 : Pm.getN l 9 4 < 4294967296 := getN_lt l 9 4
  have n3 : Pm.getN l 13 2 < 65536 := getN_lt l 13 2
  have hw2 : IntKind.u32.wrap (Pm.getN l 9 4 : Int) = Pm.getN l 9 4 := IntWalk.u32_in _ (by omega)
  have hw3 : IntKind.u16.wrap (Pm.getN l 13 2 : Int) = Pm.getN l 13 2 := IntWalk.u16_in _ (by omega)
  have HMM := Lib.hid hm
  clear hm
  have HEE := Lib.hid he
  clear he
  go_enter Try.func6, Try.ntmps6
  go_upto_region 3 with fail
  go_cut [6] (Dec3 l w)
  case first =>
    obtain ⟨W, hW⟩ : ∃ W, W = (((w.alloc (.cells #[.string ⟨#[]⟩, .bool false, .int .u64 0, .int .u32 0, .int .u16 0, .string ⟨#[]⟩, .int .i64 0] 31)).alloc (.cells #[.string ⟨l.toArray⟩, .int .i64 0, .bool true] 69)).alloc (.cells #[.pointer (some ⟨w.heap.size + 1, 0, none⟩)] 65)) := ⟨_, rfl⟩
    have hR : Blk W w.heap.size 31 #[.string ⟨#[]⟩, .bool false, .int .u64 0, .int .u32 0, .int .u16 0, .string ⟨#[]⟩, .int .i64 0] := by
      rw [hW]; exact ((Blk.new w 31 _).alloc _).alloc _
    have hB0 : Blk W (w.heap.size + 1) 69 #[.string ⟨l.toArray⟩, .int .i64 ((0 : Nat) : Int), .bool true] := by
      have h := (Blk.new (w.alloc (.cells #[.string ⟨#[]⟩, .bool false, .int .u64 0, .int .u32 0, .int .u16 0, .string ⟨#[]⟩, .int .i64 0] 31)) 69 #[.string ⟨l.toArray⟩, .int .i64 0, .bool true]).alloc (.cells #[.pointer (some ⟨w.heap.size + 1, 0, none⟩)] 65)
      rw [hW]; simpa using h
    have hV : Blk W (w.heap.size + 1 + 1) 65 #[.pointer (some ⟨w.heap.size + 1, 0, none⟩)] := by
      have h := Blk.new ((w.alloc (.cells #[.string ⟨#[]⟩, .bool false, .int .u64 0, .int .u32 0, .int .u16 0, .string ⟨#[]⟩, .int .i64 0] 31)).alloc (.cells #[.string ⟨l.toArray⟩, .int .i64 0, .bool true] 69)) 65 #[.pointer (some ⟨w.heap.size + 1, 0, none⟩)]
      rw [hW]; simpa using h
    have hb : Below w.heap.size w W := by rw [hW]; exact ba (ba (ba (Below.refl _ _) _) _) _
    rw [← hW]
    clear hW
    have hS : St w W := ⟨hR, hV, hb⟩
    have cv : W.cell? ⟨w.heap.size + 1 + 1, 0, none⟩ = some (.pointer (some ⟨w.heap.size + 1, 0, none⟩)) := hV.cell 0
    have hz := hV.lt
    have nz := Nat.ne_of_gt hz
    have mz := Nat.ne_of_lt hz
    have N1 := Lib.hid (fun W hB => reading_num l 0 1 true (w.heap.size + 1) W (by omega) (by omega) (by omega) (by omega) hB)
    have N2 := Lib.hid (fun W hB => reading_num l 1 8 (true && Pm.okN l 0 1) (w.heap.size + 1) W (by omega) (by omega) (by omega) (by omega) hB)
    have N3 := Lib.hid (fun W hB => reading_num l 9 4 ((true && Pm.okN l 0 1) && Pm.okN l 1 8) (w.heap.size + 1) W (by omega) (by omega) (by omega) (by omega) hB)
    have N4 := Lib.hid (fun W hB => reading_num l 13 2 (((true && Pm.okN l 0 1) && Pm.okN l 1 8) && Pm.okN l 9 4) (w.heap.size + 1) W (by omega) (by omega) (by omega) (by omega) hB)
    go_region_held3 (fun w' => w'.cell? ⟨w.heap.size + 1 + 1, 0, none⟩ = some (.pointer (some ⟨w.heap.size + 1, 0, none⟩))) (go_keep)
      (first
       | (go_at_call_of 24 (Value.int .i64 1); ((refine (N1.out _ (by repeat (first | exact hB0 | apply Blk.drew | apply Blk.alloc))).mono ?_); rintro e w1 ⟨rfl, hB1, hO1⟩; obtain ⟨hc1, hf1, hz1⟩ := hO1.blk (w.heap.size + 1 + 1) (by first | omega | (simp; omega)) (by omega); have nz1 := Nat.ne_of_gt hz1; have mz1 := Nat.ne_of_lt hz1; (first | (have hS1 := St.only (St.drew hS) hO1) | (have hS1 := St.only hS hO1) | (have hS1 := St.only (St.alloc hS _) hO1) | (have hS1 := St.only (St.drew (St.alloc hS _)) hO1) | (have hS1 := St.only (St.alloc (St.drew hS) _) hO1)); first | (have k1 := chainK (Blk.new _ 31 _) hO1 (ne2 hz); obtain ⟨hK1, cK1, fK1, nK1, lK1⟩ := k1) | (have k1 := chainK (Blk.new _ 31 _).drew hO1 (ne2 hz); obtain ⟨hK1, cK1, fK1, nK1, lK1⟩ := k1) | skip))
       | (go_at_call_of 24 (Value.int .i64 8); ((refine (N2.out _ (by repeat (first | exact hB1 | apply Blk.drew | apply Blk.alloc))).mono ?_); rintro e w2 ⟨rfl, hB2, hO2⟩; obtain ⟨hc2, hf2, hz2⟩ := hO2.blk (w.heap.size + 1 + 1) (by first | omega | (simp; omega)) (by omega); have nz2 := Nat.ne_of_gt hz2; have mz2 := Nat.ne_of_lt hz2; (first | (have hS2 := St.only (St.drew hS1) hO2) | (have hS2 := St.only hS1 hO2) | (have hS2 := St.only (St.alloc hS1 _) hO2) | (have hS2 := St.only (St.drew (St.alloc hS1 _)) hO2) | (have hS2 := St.only (St.alloc (St.drew hS1) _) hO2)); first | (have k2 := chainK (Blk.new _ 31 _) hO2 (ne2 hz1); obtain ⟨hK2, cK2, fK2, nK2, lK2⟩ := k2) | (have k2 := chainK (Blk.new _ 31 _).drew hO2 (ne2 hz1); obtain ⟨hK2, cK2, fK2, nK2, lK2⟩ := k2) | (have k2 := chainK hK1 hO2 nK1; obtain ⟨hK2, cK2, fK2, nK2, lK2⟩ := k2) | skip))
       | (go_at_call_of 24 (Value.int .i64 4); ((refine (N3.out _ (by repeat (first | exact hB2 | apply Blk.drew | apply Blk.alloc))).mono ?_); rintro e w3 ⟨rfl, hB3, hO3⟩; obtain ⟨hc3, hf3, hz3⟩ := hO3.blk (w.heap.size + 1 + 1) (by first | omega | (simp; omega)) (by omega); have nz3 := Nat.ne_of_gt hz3; have mz3 := Nat.ne_of_lt hz3; (first | (have hS3 := St.only (St.drew hS2) hO3) | (have hS3 := St.only hS2 hO3) | (have hS3 := St.only (St.alloc hS2 _) hO3) | (have hS3 := St.only (St.drew (St.alloc hS2 _)) hO3) | (have hS3 := St.only (St.alloc (St.drew hS2) _) hO3)); first | (have k3 := chainK (Blk.new _ 31 _) hO3 (ne2 hz2); obtain ⟨hK3, cK3, fK3, nK3, lK3⟩ := k3) | (have k3 := chainK (Blk.new _ 31 _).drew hO3 (ne2 hz2); obtain ⟨hK3, cK3, fK3, nK3, lK3⟩ := k3) | (have k3 := chainK hK2 hO3 nK2; obtain ⟨hK3, cK3, fK3, nK3, lK3⟩ := k3) | skip))
       | (go_at_call_of 24 (Value.int .i64 2); ((refine (N4.out _ (by repeat (first | exact hB3 | apply Blk.drew | apply Blk.alloc))).mono ?_); rintro e w4 ⟨rfl, hB4, hO4⟩; obtain ⟨hc4, hf4, hz4⟩ := hO4.blk (w.heap.size + 1 + 1) (by first | omega | (simp; omega)) (by omega); have nz4 := Nat.ne_of_gt hz4; have mz4 := Nat.ne_of_lt hz4; (first | (have hS4 := St.only (St.drew hS3) hO4) | (have hS4 := St.only hS3 hO4) | (have hS4 := St.only (St.alloc hS3 _) hO4) | (have hS4 := St.only (St.drew (St.alloc hS3 _)) hO4) | (have hS4 := St.only (St.alloc (St.drew hS3) _) hO4)); first | (have k4 := chainK (Blk.new _ 31 _) hO4 (ne2 hz3); obtain ⟨hK4, cK4, fK4, nK4, lK4⟩ := k4) | (have k4 := chainK (Blk.new _ 31 _).drew hO4 (ne2 hz3); obtain ⟨hK4, cK4, fK4, nK4, lK4⟩ := k4) | (have k4 := chainK hK3 hO4 nK3; obtain ⟨hK4, cK4, fK4, nK4, lK4⟩ := k4) | skip)))
    all_goals (go_wp2_with fail; go_meet)
    · exact Dec3.last hz4 hS4 hB4
    · exact Dec3.before hz3 hS4 hK4 hB4
    · exact Dec3.before hz2 hS4 hK4 hB4
    · exact Dec3.before hz1 hS4 hK4 hB4
    · exact Dec3.before hz hS4 hK4 hB4
  case rest =>
    clear n0 n2 n3 hw2 hw3
    obtain ⟨k, rfl, hk, hK, hB, hS⟩ := hcut
    have hR := hS.1
    have hV := hS.2.1
    have hb := hS.2.2
    clear hS
    have P1 := Lib.hid (fun W hV hB => piece1 l w W hl hV hB)
    have P2 := Lib.hid (fun W hV hB => piece2 l w W hl hV hB)
    have hek : Pm.rdEnd l ≤ 1000 := by
      have kl1 : Pm.rdKl l < 256 := getN_lt l 15 1
      have vl1 : Pm.rdVl l < 256 := getN_lt l _ 1
      unfold Pm.rdEnd; omega
    have nkv : k ≠ w.heap.size + 1 + 1 := by omega
    have nkg : k ≠ w.heap.size + 1 := by omega
    go_wp2_with fail
    refine (P1.out wc hV hB).mono ?_
    rintro e w1 ⟨rfl, hB1, hO1⟩
    have hV1 := hV.grown hO1 (by simp)
    have hR1 := hR.grown hO1 (by simp)
    have hb1 := bo hb hO1 (by omega)
    have hK1 := hK.grown hO1 (by simpa using nkg)
    clear hV hR hb hK hB hO1
    have fk1 := hK1.frozen
    have ck1 := hK1.cell
    have lk1 := hK1.lt
    have fv1 := hV1.frozen
    have cv1 := hV1.cell
    go_wp2_with fail
    refine (P2.out _ (hV1.far (p := ⟨k, 0, none⟩) (Ne.symm nkv) _) (hB1.far (p := ⟨k, 0, none⟩) (Ne.symm nkg) _)).mono ?_
    rintro e w2 ⟨rfl, hB2, hO2⟩
    have hV2 := (hV1.far (p := ⟨k, 0, none⟩) (Ne.symm nkv) (.string ⟨(Pm.rdKey l).toArray⟩)).grown hO2 (by simp)
    have hR2 := (hR1.far (p := ⟨k, 0, none⟩) (by show _ ≠ k; omega) (.string ⟨(Pm.rdKey l).toArray⟩)).grown hO2 (by simp)
    have hb2 := bo (bs hb1 (p := ⟨k, 0, none⟩) (by show _ ≤ k; omega) (.string ⟨(Pm.rdKey l).toArray⟩)) hO2 (by omega)
    have hK2 := (hK1.set_ 0 (.string ⟨(Pm.rdKey l).toArray⟩)).grown hO2 (by simpa using nkg)
    clear hV1 hR1 hb1 hK1 hB1 hO2 fk1 ck1 lk1 fv1 cv1
    simp only [List.setIfInBounds_toArray, List.set_cons_zero] at hK2
    have fk2 := hK2.frozen
    have ck2 := hK2.cell
    have lk2 := hK2.lt
    have cv2 := hV2.cell
    have cb2 := hB2.cell
    have fb2 := hB2.frozen
    have cr2 := hR2.cell
    have fr2 := hR2.frozen
    go_wp2_with fail
    have hV3 := (hV2.far (p := ⟨k, 5, none⟩) (Ne.symm nkv) (.string ⟨(Pm.rdVal l).toArray⟩)).far (p := ⟨k, 6, none⟩) (Ne.symm nkv) (.int .i64 ((l.length : Int) - (Pm.rdEnd l : Int)))
    have hB3 := (hB2.far (p := ⟨k, 5, none⟩) (Ne.symm nkg) (.string ⟨(Pm.rdVal l).toArray⟩)).far (p := ⟨k, 6, none⟩) (Ne.symm nkg) (.int .i64 ((l.length : Int) - (Pm.rdEnd l : Int)))
    have hR3 := (hR2.far (p := ⟨k, 5, none⟩) (by show _ ≠ k; omega) (.string ⟨(Pm.rdVal l).toArray⟩)).far (p := ⟨k, 6, none⟩) (by show _ ≠ k; omega) (.int .i64 ((l.length : Int) - (Pm.rdEnd l : Int)))
    have hK3 := (hK2.set_ 5 (.string ⟨(Pm.rdVal l).toArray⟩)).set_ 6 (.int .i64 ((l.length : Int) - (Pm.rdEnd l : Int)))
    have hb3 := bs (bs hb2 (p := ⟨k, 5, none⟩) (by show _ ≤ k; omega) (.string ⟨(Pm.rdVal l).toArray⟩)) (p := ⟨k, 6, none⟩) (by show _ ≤ k; omega) (.int .i64 ((l.length : Int) - (Pm.rdEnd l : Int)))
    clear hV2 hB2 hR2 hK2 hb2 fk2 ck2 lk2 cv2 cb2 fb2 cr2 fr2 P1 P2
    generalize (w2.setCell ⟨k, 5, none⟩ (.string ⟨(Pm.rdVal l).toArray⟩)).setCell ⟨k, 6, none⟩ (.int .i64 ((l.length : Int) - (Pm.rdEnd l : Int))) = w3 at *
    simp only [List.setIfInBounds_toArray, List.set_cons_zero, List.set_cons_succ] at hK3
    have kle : (Pm.rdKey l).length ≤ 256 := Nat.le_trans (cutN_len _ _ _) (by have : Pm.rdKl l < 256 := getN_lt l 15 1; omega)
    have vle : (Pm.rdVal l).length ≤ 256 := Nat.le_trans (cutN_len _ _ _) (by have : Pm.rdVl l < 256 := getN_lt l _ 1; omega)
    have pgl : Pm.rdPg l < 4294967296 := getN_lt l 9 4
    have sll : Pm.rdSl l < 65536 := getN_lt l 13 2
    have txl : Pm.rdTx l < 256 ^ 8 := getN_lt l 1 8
    have TXL := Lib.hid txl
    clear txl
    obtain ⟨pd, hpd⟩ : ∃ pd : Nat, Pm.rdPad l = (pd : Int) := ⟨(Pm.rdPad l).toNat, by unfold Pm.may at HMM; have := HMM.out; simp at this; omega⟩
    have hpd' : (l.length : Int) - (Pm.rdEnd l : Int) = (pd : Int) := hpd
    rw [hpd'] at hK3 ⊢
    have HM := HMM.out
    rw [hpd] at HM
    have HE := HEE.out
    rw [hpd, Int.toNat_natCast] at HE
    have hml : (Pm.rdKey l).length ≤ 48 ∧ (Pm.rdVal l).length ≤ 96 ∧ pd ≤ 96 ∧ Pm.rdPg l ≤ 1024 := by unfold Pm.may at HM; simp at HM; omega
    have C := row_encode_yes (Pm.rdKey l) (Pm.rdVal l) (Pm.rdMark l) (Pm.rdTx l) (Pm.rdPg l) (Pm.rdSl l) pd w3 (by omega) (by omega) (by omega) (by omega) sll TXL.out HM
    obtain ⟨E, hE⟩ : ∃ E, E = Pm.enc (Pm.rdKey l) (Pm.rdVal l) (Pm.rdMark l) (Pm.rdTx l) (Pm.rdPg l) (Pm.rdSl l) pd := ⟨_, rfl⟩
    rw [← hE] at C HE
    clear hE
    have hne1 : (E == l) = false := by simpa using HE
    have hne2 : (E != l) = true := by simpa using HE
    have HC := Lib.hid C
    have HPD := Lib.hid hpd
    clear C HM HE hpd hpd' pgl sll
    refine HC.out.mono ?_
    rintro e w4 ⟨rfl, hb4⟩
    have hV4 := hV3.after hb4
    have hB4 := hB3.after hb4
    have hR4 := hR3.after hb4
    have hK4 := hK3.after hb4
    have hb5 := bt hb3 hb4
    clear hV3 hB3 hR3 hK3 hb3 hb4
    have ck4 := hK4.cell
    have cv4 := hV4.cell
    have cb4 := hB4.cell
    have cr4 := hR4.cell
    have fr4 := hR4.frozen
    have lk4 := hK4.lt
    have lr4 := hR4.lt
    go_wp2_with fail
    refine bodyPost_ret (v := .tuple #[.agg #[.string ⟨#[]⟩, .bool false, .int .u64 0, .int .u32 0, .int .u16 0, .string ⟨#[]⟩, .int .i64 0], .int .i64 7]) (by simp [results, Try.results6, go_sem, cr4, fr4, ck4]) rfl ⟨rfl, ?_⟩
    exact bs (bs (bs (bs (bs (bs (bs hb5 (Nat.le_refl _) _) (Nat.le_refl _) _) (Nat.le_refl _) _) (Nat.le_refl _) _) (Nat.le_refl _) _) (Nat.le_refl _) _) (Nat.le_refl _) _
theorem decode_no (l : List UInt8) (w : World) (hl : l.length ≤ 100000) (hg : Pm.rdGood l = false) :
    Calls Try.prog 6 #[.string ⟨l.toArray⟩] w fun e w' => e = .returned (.tuple #[.agg #[.string ⟨#[]⟩, .bool false, .int .u64 0, .int .u32 0, .int .u16 0, .string ⟨#[]⟩, .int .i64 0], .int .i64 7]) ∧ Below w.heap.size w w' := by
  by_cases rk : Pm.rdOk l = true
  · by_cases hm : Pm.may (Pm.rdKey l) (Pm.rdVal l) (Pm.rdPg l) (Pm.rdSl l) (Pm.rdPad l) = true
    · refine decode_no_enc l w hl rk hm fun he => ?_
      rw [Pm.rdGood, rk, hm, he] at hg
      simp at hg
    · exact decode_no_may l w hl rk (by simpa using hm)
  · by_cases hm : Pm.may (Pm.rdKey l) (Pm.rdVal l) (Pm.rdPg l) (Pm.rdSl l) (Pm.rdPad l) = true
    · exact decode_no_ok l w hl (by simpa using rk) hm
    · exact decode_no_both l w hl (by simpa using rk) (by simpa using hm)
end Go.Proofs.Ytaddjpngjhkkmaa
