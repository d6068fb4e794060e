/- An undo record read: what the code answers, as lemmas for every input that their premises allow; a part of the proof of TopRowed. -/
import Derived.Test.YtaddjpngjhkkmaaW11
import Derived.Test.YtaddjpngjhkkmaaW8
import Derived.Test.YtaddjpngjhkkmaaPl
namespace Go.Proofs.Ytaddjpngjhkkmaa
open Go.RowKit
attribute [local go_sem ↓] Go.wp_at_zero Go.wp_at_succ
attribute [local go_sem ↓] add_short
set_option maxRecDepth 100000 in
set_option maxHeartbeats 4000000 in
theorem undo_decode1 (l : List UInt8) (k : List UInt8) (tx pg sl : Nat) (w : World) (hl1 : 15 ≤ l.length) (hl2 : l.length ≤ 10000) (g0 : Pm.getN l 0 1 = 1) (g1 : Pm.getN l 1 8 = tx) (g2 : Pm.getN l 9 4 = pg) (g3 : Pm.getN l 13 2 = sl) (hd : l.drop 15 = k) (hk1 : 1 ≤ k.length) (hk : k.length ≤ 48) (ht : 1 ≤ tx) (hp : pg ≤ 1024) (hps : pg = 0 → sl = 0) (hsl : sl < 65536) :
    Calls Try.prog 15 #[.string ⟨l.toArray⟩] w fun e w' => e = .returned (.tuple #[.agg #[.int .u8 1, .int .u64 tx, .int .u32 pg, .int .u16 sl, .string ⟨k.toArray⟩, .string ⟨#[]⟩, .bool false, .int .u64 0, .int .u32 0, .int .u16 0, .string ⟨#[]⟩, .int .i64 0], .int .i64 0]) ∧ Below w.heap.size w w' := by
  have o0 : Pm.okN l 0 1 = true := by unfold Pm.okN; simp; omega
  have o1 : Pm.okN l 1 8 = true := by unfold Pm.okN; simp; omega
  have o2 : Pm.okN l 9 4 = true := by unfold Pm.okN; simp; omega
  have o3 : Pm.okN l 13 2 = true := by unfold Pm.okN; simp; omega
  have N0 := fun vs va vb W hS hA hB => next37 l 0 1 true vs va vb W (by omega) (by omega) (by omega) (by omega) hS hA hB
  have N1 := fun vs va vb W hS hA hB => next37 l 1 8 true vs va vb W (by omega) (by omega) (by omega) (by omega) hS hA hB
  have N2 := fun vs va vb W hS hA hB => next37 l 9 4 true vs va vb W (by omega) (by omega) (by omega) (by omega) hS hA hB
  have N3 := fun vs va vb W hS hA hB => next37 l 13 2 true vs va vb W (by omega) (by omega) (by omega) (by omega) hS hA hB
  simp only [g0, g1, g2, g3, o0, o1, o2, o3, Bool.true_and] at N0 N1 N2 N3
  replace N0 := Lib.hid N0
  replace N1 := Lib.hid N1
  replace N2 := Lib.hid N2
  replace N3 := Lib.hid N3
  have hex : (ByteArray.mk l.toArray).extract 15 l.length = ByteArray.mk (k).toArray := by
    rw [ByteArray.extract_mk, hd, List.take_of_length_le (by rw [← hd]; simp)]
  have HEX := Lib.hid hex
  have hpg : pg < 4294967296 := by rw [← g2]; exact getN_lt l 9 4
  have hw1 : IntKind.u32.wrap (pg : Int) = pg := IntWalk.u32_in _ (by omega)
  have hw2 : IntKind.u16.wrap (sl : Int) = sl := IntWalk.u16_in _ (by omega)
  clear hex o0 o1 o2 o3 g0 g1 g2 g3 hd
  have hS0 : Blk ((((w.alloc (.cells #[.string ⟨l.toArray⟩] 9)).alloc (.cells #[.int .u8 0, .int .u64 0, .int .u32 0, .int .u16 0, .string ⟨#[]⟩, .string ⟨#[]⟩, .bool false, .int .u64 0, .int .u32 0, .int .u16 0, .string ⟨#[]⟩, .int .i64 0] 50)).alloc (.cells #[.int .i64 0] 3)).alloc (.cells #[.bool true] 4)) w.heap.size 9 #[.string ⟨l.toArray⟩] := (((Blk.new w 9 _).alloc _).alloc _).alloc _
  have hR0 : Blk ((((w.alloc (.cells #[.string ⟨l.toArray⟩] 9)).alloc (.cells #[.int .u8 0, .int .u64 0, .int .u32 0, .int .u16 0, .string ⟨#[]⟩, .string ⟨#[]⟩, .bool false, .int .u64 0, .int .u32 0, .int .u16 0, .string ⟨#[]⟩, .int .i64 0] 50)).alloc (.cells #[.int .i64 0] 3)).alloc (.cells #[.bool true] 4)) (w.heap.size + 1) 50 #[.int .u8 0, .int .u64 0, .int .u32 0, .int .u16 0, .string ⟨#[]⟩, .string ⟨#[]⟩, .bool false, .int .u64 0, .int .u32 0, .int .u16 0, .string ⟨#[]⟩, .int .i64 0] := by
    have h := ((Blk.new (w.alloc (.cells #[.string ⟨l.toArray⟩] 9)) 50 #[.int .u8 0, .int .u64 0, .int .u32 0, .int .u16 0, .string ⟨#[]⟩, .string ⟨#[]⟩, .bool false, .int .u64 0, .int .u32 0, .int .u16 0, .string ⟨#[]⟩, .int .i64 0]).alloc (.cells #[.int .i64 0] 3)).alloc (.cells #[.bool true] 4)
    simpa using h
  have hA0 : Blk ((((w.alloc (.cells #[.string ⟨l.toArray⟩] 9)).alloc (.cells #[.int .u8 0, .int .u64 0, .int .u32 0, .int .u16 0, .string ⟨#[]⟩, .string ⟨#[]⟩, .bool false, .int .u64 0, .int .u32 0, .int .u16 0, .string ⟨#[]⟩, .int .i64 0] 50)).alloc (.cells #[.int .i64 0] 3)).alloc (.cells #[.bool true] 4)) (w.heap.size + 1 + 1) 3 #[.int .i64 ((0 : Nat) : Int)] := by
    have h := (Blk.new ((w.alloc (.cells #[.string ⟨l.toArray⟩] 9)).alloc (.cells #[.int .u8 0, .int .u64 0, .int .u32 0, .int .u16 0, .string ⟨#[]⟩, .string ⟨#[]⟩, .bool false, .int .u64 0, .int .u32 0, .int .u16 0, .string ⟨#[]⟩, .int .i64 0] 50)) 3 #[.int .i64 0]).alloc (.cells #[.bool true] 4)
    simpa using h
  have hB0 : Blk ((((w.alloc (.cells #[.string ⟨l.toArray⟩] 9)).alloc (.cells #[.int .u8 0, .int .u64 0, .int .u32 0, .int .u16 0, .string ⟨#[]⟩, .string ⟨#[]⟩, .bool false, .int .u64 0, .int .u32 0, .int .u16 0, .string ⟨#[]⟩, .int .i64 0] 50)).alloc (.cells #[.int .i64 0] 3)).alloc (.cells #[.bool true] 4)) (w.heap.size + 1 + 1 + 1) 4 #[.bool true] := by
    have h := Blk.new (((w.alloc (.cells #[.string ⟨l.toArray⟩] 9)).alloc (.cells #[.int .u8 0, .int .u64 0, .int .u32 0, .int .u16 0, .string ⟨#[]⟩, .string ⟨#[]⟩, .bool false, .int .u64 0, .int .u32 0, .int .u16 0, .string ⟨#[]⟩, .int .i64 0] 50)).alloc (.cells #[.int .i64 0] 3)) 4 #[.bool true]
    simpa using h
  have hb0 : Below w.heap.size w ((((w.alloc (.cells #[.string ⟨l.toArray⟩] 9)).alloc (.cells #[.int .u8 0, .int .u64 0, .int .u32 0, .int .u16 0, .string ⟨#[]⟩, .string ⟨#[]⟩, .bool false, .int .u64 0, .int .u32 0, .int .u16 0, .string ⟨#[]⟩, .int .i64 0] 50)).alloc (.cells #[.int .i64 0] 3)).alloc (.cells #[.bool true] 4)) := ba (ba (ba (ba (Below.refl _ _) _) _) _) _
  go_enter Try.func15, Try.ntmps15
  go_wp2_with fail
  refine (N0.out _ _ _ _ hS0 hA0 hB0).mono ?_
  rintro e w1 ⟨rfl, hA1, hB1, hO1⟩
  have hS1 := hS0.only2 hO1 (by omega) (by omega)
  have hR1 := hR0.only2 hO1 (by omega) (by omega)
  have hb1 := bo2 hb0 hO1 (by omega) (by omega)
  clear hS0 hR0 hA0 hB0 hb0 hO1
  go_wp2_with fail
  refine (N1.out _ _ _ _ hS1 hA1 hB1).mono ?_
  rintro e w2 ⟨rfl, hA2, hB2, hO2⟩
  have hS2 := hS1.only2 hO2 (by omega) (by omega)
  have hR2 := hR1.only2 hO2 (by omega) (by omega)
  have hb2 := bo2 hb1 hO2 (by omega) (by omega)
  clear hS1 hR1 hA1 hB1 hb1 hO2
  have lb2 := hB2.lt
  go_wp2_with fail
  have hK2 := Blk.new w2 50 #[.int .u8 1, .int .u64 tx, .int .u32 0, .int .u16 0, .string ⟨#[]⟩, .string ⟨#[]⟩, .bool false, .int .u64 0, .int .u32 0, .int .u16 0, .string ⟨#[]⟩, .int .i64 0]
  refine (N2.out _ _ _ _ (hS2.alloc _) (hA2.alloc _) (hB2.alloc _)).mono ?_
  rintro e w3 ⟨rfl, hA3, hB3, hO3⟩
  have hS3 := (hS2.alloc (.cells #[.int .u8 1, .int .u64 tx, .int .u32 0, .int .u16 0, .string ⟨#[]⟩, .string ⟨#[]⟩, .bool false, .int .u64 0, .int .u32 0, .int .u16 0, .string ⟨#[]⟩, .int .i64 0] 50)).only2 hO3 (by omega) (by omega)
  have hR3 := (hR2.alloc (.cells #[.int .u8 1, .int .u64 tx, .int .u32 0, .int .u16 0, .string ⟨#[]⟩, .string ⟨#[]⟩, .bool false, .int .u64 0, .int .u32 0, .int .u16 0, .string ⟨#[]⟩, .int .i64 0] 50)).only2 hO3 (by omega) (by omega)
  have hK3 := hK2.only2 hO3 (by omega) (by omega)
  have hb3 := bo2 (ba hb2 (.cells #[.int .u8 1, .int .u64 tx, .int .u32 0, .int .u16 0, .string ⟨#[]⟩, .string ⟨#[]⟩, .bool false, .int .u64 0, .int .u32 0, .int .u16 0, .string ⟨#[]⟩, .int .i64 0] 50)) hO3 (by omega) (by omega)
  clear hS2 hR2 hA2 hB2 hb2 hO3 hK2
  generalize w2.heap.size = K at *
  have ck3 := hK3.cell
  have fk3 := hK3.frozen
  have lk3 := hK3.lt
  go_wp2_with fail
  refine (N3.out _ _ _ _ (hS3.far (p := ⟨K, 2, none⟩) (by show _ ≠ K; omega) _) (hA3.far (p := ⟨K, 2, none⟩) (by show _ ≠ K; omega) _) (hB3.far (p := ⟨K, 2, none⟩) (by show _ ≠ K; omega) _)).mono ?_
  rintro e w4 ⟨rfl, hA4, hB4, hO4⟩
  have hS4 := (hS3.far (p := ⟨K, 2, none⟩) (by show _ ≠ K; omega) (.int .u32 pg)).only2 hO4 (by omega) (by omega)
  have hR4 := (hR3.far (p := ⟨K, 2, none⟩) (by show _ ≠ K; omega) (.int .u32 pg)).only2 hO4 (by omega) (by omega)
  have hK4 : Blk w4 K 50 #[.int .u8 1, .int .u64 tx, .int .u32 pg, .int .u16 0, .string ⟨#[]⟩, .string ⟨#[]⟩, .bool false, .int .u64 0, .int .u32 0, .int .u16 0, .string ⟨#[]⟩, .int .i64 0] := (hK3.set_ 2 (.int .u32 pg)).only2 hO4 (by omega) (by omega)
  have hb4 := bo2 (bs hb3 (p := ⟨K, 2, none⟩) (by show _ ≤ K; omega) (.int .u32 pg)) hO4 (by omega) (by omega)
  clear hS3 hR3 hA3 hB3 hb3 hO4 hK3 ck3 fk3 lk3
  have ck4 := hK4.cell
  have fk4 := hK4.frozen
  have cs4 := hS4.cell
  have ca4 := hA4.cell
  have cb4 := hB4.cell
  have cr4 := hR4.cell
  have fr4 := hR4.frozen
  have lk4 := hK4.lt
  have nks : K ≠ w.heap.size := by omega
  have nkr : K ≠ w.heap.size + 1 := by omega
  have nka : K ≠ w.heap.size + 1 + 1 := by omega
  have nkb : K ≠ w.heap.size + 1 + 1 + 1 := by omega
  go_wp2_with fail
  rw [HEX.out]
  have hK5 : Blk _ K 50 #[.int .u8 1, .int .u64 tx, .int .u32 pg, .int .u16 sl, .string ⟨k.toArray⟩, .string ⟨#[]⟩, .bool false, .int .u64 0, .int .u32 0, .int .u16 0, .string ⟨#[]⟩, .int .i64 0] := (hK4.set_ 3 (.int .u16 sl)).set_ 4 (.string ⟨k.toArray⟩)
  have hR5 := (hR4.far (p := ⟨K, 3, none⟩) (Ne.symm nkr) (.int .u16 sl)).far (p := ⟨K, 4, none⟩) (Ne.symm nkr) (.string ⟨k.toArray⟩)
  have hb5' := bs (bs hb4 (p := ⟨K, 3, none⟩) (by show _ ≤ K; omega) (.int .u16 sl)) (p := ⟨K, 4, none⟩) (by show _ ≤ K; omega) (.string ⟨k.toArray⟩)
  clear hK4 hR4 hb4 hA4 hB4 hS4 ck4 fk4 cs4 ca4 cb4 cr4 fr4
  refine (undo_may1 k tx pg sl _ hk1 hk ht hp hps hsl).mono ?_
  rintro e w5 ⟨rfl, hb5⟩
  have hK6 := hK5.after hb5
  have hR6 := hR5.after hb5
  have hb6 := bt hb5' hb5
  clear hK5 hR5 hb5 hb5'
  have ck6 := hK6.cell
  have cr6 := hR6.cell
  have fr6 := hR6.frozen
  have lk6 := hK6.lt
  have lr6 := hR6.lt
  go_wp2_with fail
  refine bodyPost_ret (v := .tuple #[.agg #[.int .u8 1, .int .u64 tx, .int .u32 pg, .int .u16 sl, .string ⟨k.toArray⟩, .string ⟨#[]⟩, .bool false, .int .u64 0, .int .u32 0, .int .u16 0, .string ⟨#[]⟩, .int .i64 0], .int .i64 0]) (by simp [results, Try.results15, go_sem, cr6, fr6, ck6]) rfl ⟨rfl, ?_⟩
  exact bs (bs (bs (bs (bs (bs (bs (bs (bs (bs (bs (bs (hb6) (p := ⟨w.heap.size + 1, 0, none⟩) (Nat.le_succ _) _) (p := ⟨w.heap.size + 1, 1, none⟩) (Nat.le_succ _) _) (p := ⟨w.heap.size + 1, 2, none⟩) (Nat.le_succ _) _) (p := ⟨w.heap.size + 1, 3, none⟩) (Nat.le_succ _) _) (p := ⟨w.heap.size + 1, 4, none⟩) (Nat.le_succ _) _) (p := ⟨w.heap.size + 1, 5, none⟩) (Nat.le_succ _) _) (p := ⟨w.heap.size + 1, 6, none⟩) (Nat.le_succ _) _) (p := ⟨w.heap.size + 1, 7, none⟩) (Nat.le_succ _) _) (p := ⟨w.heap.size + 1, 8, none⟩) (Nat.le_succ _) _) (p := ⟨w.heap.size + 1, 9, none⟩) (Nat.le_succ _) _) (p := ⟨w.heap.size + 1, 10, none⟩) (Nat.le_succ _) _) (p := ⟨w.heap.size + 1, 11, none⟩) (Nat.le_succ _) _
theorem decode_enc (k v : List UInt8) (mk : Bool) (tx pg sl pad : Nat) (w : World) (hk : k.length ≤ 48) (hv : v.length ≤ 96) (htx : tx < 18446744073709551616) (hpg : pg ≤ 1024) (hsl : sl < 65536) (hm : Pm.may k v pg sl pad = true) :
    Calls Try.prog 6 #[.string ⟨(Pm.enc k v mk tx pg sl pad).toArray⟩] w fun e w' => e = .returned (.tuple #[.agg #[.string ⟨k.toArray⟩, .bool mk, .int .u64 tx, .int .u32 pg, .int .u16 sl, .string ⟨v.toArray⟩, .int .i64 pad], .int .i64 0]) ∧ Below w.heap.size w w' := by
  have hp : pad ≤ 96 := by unfold Pm.may at hm; simp at hm; omega
  have h := decode_yes (Pm.enc k v mk tx pg sl pad) w (by rw [enc_length]; omega) (rdGood_enc k v mk tx pg sl pad hk hv htx hpg hsl hm)
  obtain ⟨e0, e1, e2, e3, e4, e5, e6, _, _, _⟩ := rd_enc k v mk tx pg sl pad hk hv htx hpg hsl
  rw [e0, e1, e2, e3, e4, e5, e6] at h
  exact h
set_option maxRecDepth 100000 in
set_option maxHeartbeats 4000000 in
theorem undo_decode2 (l : List UInt8) (k v : List UInt8) (mk : Bool) (tx pg sl wtx wpg wsl pad : Nat) (w : World) (hl1 : 15 ≤ l.length) (hl2 : l.length ≤ 10000) (g0 : Pm.getN l 0 1 = 2) (g1 : Pm.getN l 1 8 = tx) (g2 : Pm.getN l 9 4 = pg) (g3 : Pm.getN l 13 2 = sl) (hd : l.drop 15 = Pm.enc k v mk wtx wpg wsl pad) (hk1 : 1 ≤ k.length) (hk : k.length ≤ 48) (ht : 1 ≤ tx) (hp : pg ≤ 1024) (hps : pg = 0 → sl = 0) (hsl : sl < 65536) (hwt : wtx < 18446744073709551616) (hv : v.length ≤ 96) (hpad : pad ≤ 96) (hwpg : wpg ≤ 1024) (hwsl : wsl < 65536) (hm : Pm.may k v wpg wsl pad = true) :
    Calls Try.prog 15 #[.string ⟨l.toArray⟩] w fun e w' => e = .returned (.tuple #[.agg #[.int .u8 2, .int .u64 tx, .int .u32 pg, .int .u16 sl, .string ⟨k.toArray⟩, .string ⟨k.toArray⟩, .bool mk, .int .u64 wtx, .int .u32 wpg, .int .u16 wsl, .string ⟨v.toArray⟩, .int .i64 pad], .int .i64 0]) ∧ Below w.heap.size w w' := by
  have o0 : Pm.okN l 0 1 = true := by unfold Pm.okN; simp; omega
  have o1 : Pm.okN l 1 8 = true := by unfold Pm.okN; simp; omega
  have o2 : Pm.okN l 9 4 = true := by unfold Pm.okN; simp; omega
  have o3 : Pm.okN l 13 2 = true := by unfold Pm.okN; simp; omega
  have N0 := fun vs va vb W hS hA hB => next37 l 0 1 true vs va vb W (by omega) (by omega) (by omega) (by omega) hS hA hB
  have N1 := fun vs va vb W hS hA hB => next37 l 1 8 true vs va vb W (by omega) (by omega) (by omega) (by omega) hS hA hB
  have N2 := fun vs va vb W hS hA hB => next37 l 9 4 true vs va vb W (by omega) (by omega) (by omega) (by omega) hS hA hB
  have N3 := fun vs va vb W hS hA hB => next37 l 13 2 true vs va vb W (by omega) (by omega) (by omega) (by omega) hS hA hB
  simp only [g0, g1, g2, g3, o0, o1, o2, o3, Bool.true_and] at N0 N1 N2 N3
  replace N0 := Lib.hid N0
  replace N1 := Lib.hid N1
  replace N2 := Lib.hid N2
  replace N3 := Lib.hid N3
  have hex : (ByteArray.mk l.toArray).extract 15 l.length = ByteArray.mk (Pm.enc k v mk wtx wpg wsl pad).toArray := by
    rw [ByteArray.extract_mk, hd, List.take_of_length_le (by rw [← hd]; simp)]
  have HEX := Lib.hid hex
  have hpg : pg < 4294967296 := by rw [← g2]; exact getN_lt l 9 4
  have hw1 : IntKind.u32.wrap (pg : Int) = pg := IntWalk.u32_in _ (by omega)
  have hw2 : IntKind.u16.wrap (sl : Int) = sl := IntWalk.u16_in _ (by omega)
  have HD := Lib.hid (fun W => decode_enc k v mk wtx wpg wsl pad W hk hv hwt hwpg hwsl hm)
  have HM := Lib.hid (fun W => undo_may2 k v mk tx pg sl wtx wpg wsl pad W hk1 hk ht hp hps hsl hwt hv hpad hwpg hwsl hm)
  clear hex o0 o1 o2 o3 g0 g1 g2 g3 hd hm hwt
  obtain ⟨E, hE⟩ : ∃ E, E = Pm.enc k v mk wtx wpg wsl pad := ⟨_, rfl⟩
  rw [← hE] at HEX HD
  clear hE
  have hS0 : Blk ((((w.alloc (.cells #[.string ⟨l.toArray⟩] 9)).alloc (.cells #[.int .u8 0, .int .u64 0, .int .u32 0, .int .u16 0, .string ⟨#[]⟩, .string ⟨#[]⟩, .bool false, .int .u64 0, .int .u32 0, .int .u16 0, .string ⟨#[]⟩, .int .i64 0] 50)).alloc (.cells #[.int .i64 0] 3)).alloc (.cells #[.bool true] 4)) w.heap.size 9 #[.string ⟨l.toArray⟩] := (((Blk.new w 9 _).alloc _).alloc _).alloc _
  have hR0 : Blk ((((w.alloc (.cells #[.string ⟨l.toArray⟩] 9)).alloc (.cells #[.int .u8 0, .int .u64 0, .int .u32 0, .int .u16 0, .string ⟨#[]⟩, .string ⟨#[]⟩, .bool false, .int .u64 0, .int .u32 0, .int .u16 0, .string ⟨#[]⟩, .int .i64 0] 50)).alloc (.cells #[.int .i64 0] 3)).alloc (.cells #[.bool true] 4)) (w.heap.size + 1) 50 #[.int .u8 0, .int .u64 0, .int .u32 0, .int .u16 0, .string ⟨#[]⟩, .string ⟨#[]⟩, .bool false, .int .u64 0, .int .u32 0, .int .u16 0, .string ⟨#[]⟩, .int .i64 0] := by
    have h := ((Blk.new (w.alloc (.cells #[.string ⟨l.toArray⟩] 9)) 50 #[.int .u8 0, .int .u64 0, .int .u32 0, .int .u16 0, .string ⟨#[]⟩, .string ⟨#[]⟩, .bool false, .int .u64 0, .int .u32 0, .int .u16 0, .string ⟨#[]⟩, .int .i64 0]).alloc (.cells #[.int .i64 0] 3)).alloc (.cells #[.bool true] 4)
    simpa using h
  have hA0 : Blk ((((w.alloc (.cells #[.string ⟨l.toArray⟩] 9)).alloc (.cells #[.int .u8 0, .int .u64 0, .int .u32 0, .int .u16 0, .string ⟨#[]⟩, .string ⟨#[]⟩, .bool false, .int .u64 0, .int .u32 0, .int .u16 0, .string ⟨#[]⟩, .int .i64 0] 50)).alloc (.cells #[.int .i64 0] 3)).alloc (.cells #[.bool true] 4)) (w.heap.size + 1 + 1) 3 #[.int .i64 ((0 : Nat) : Int)] := by
    have h := (Blk.new ((w.alloc (.cells #[.string ⟨l.toArray⟩] 9)).alloc (.cells #[.int .u8 0, .int .u64 0, .int .u32 0, .int .u16 0, .string ⟨#[]⟩, .string ⟨#[]⟩, .bool false, .int .u64 0, .int .u32 0, .int .u16 0, .string ⟨#[]⟩, .int .i64 0] 50)) 3 #[.int .i64 0]).alloc (.cells #[.bool true] 4)
    simpa using h
  have hB0 : Blk ((((w.alloc (.cells #[.string ⟨l.toArray⟩] 9)).alloc (.cells #[.int .u8 0, .int .u64 0, .int .u32 0, .int .u16 0, .string ⟨#[]⟩, .string ⟨#[]⟩, .bool false, .int .u64 0, .int .u32 0, .int .u16 0, .string ⟨#[]⟩, .int .i64 0] 50)).alloc (.cells #[.int .i64 0] 3)).alloc (.cells #[.bool true] 4)) (w.heap.size + 1 + 1 + 1) 4 #[.bool true] := by
    have h := Blk.new (((w.alloc (.cells #[.string ⟨l.toArray⟩] 9)).alloc (.cells #[.int .u8 0, .int .u64 0, .int .u32 0, .int .u16 0, .string ⟨#[]⟩, .string ⟨#[]⟩, .bool false, .int .u64 0, .int .u32 0, .int .u16 0, .string ⟨#[]⟩, .int .i64 0] 50)).alloc (.cells #[.int .i64 0] 3)) 4 #[.bool true]
    simpa using h
  have hb0 : Below w.heap.size w ((((w.alloc (.cells #[.string ⟨l.toArray⟩] 9)).alloc (.cells #[.int .u8 0, .int .u64 0, .int .u32 0, .int .u16 0, .string ⟨#[]⟩, .string ⟨#[]⟩, .bool false, .int .u64 0, .int .u32 0, .int .u16 0, .string ⟨#[]⟩, .int .i64 0] 50)).alloc (.cells #[.int .i64 0] 3)).alloc (.cells #[.bool true] 4)) := ba (ba (ba (ba (Below.refl _ _) _) _) _) _
  go_enter Try.func15, Try.ntmps15
  go_wp2_with fail
  refine (N0.out _ _ _ _ hS0 hA0 hB0).mono ?_
  rintro e w1 ⟨rfl, hA1, hB1, hO1⟩
  have hS1 := hS0.only2 hO1 (by omega) (by omega)
  have hR1 := hR0.only2 hO1 (by omega) (by omega)
  have hb1 := bo2 hb0 hO1 (by omega) (by omega)
  clear hS0 hR0 hA0 hB0 hb0 hO1
  go_wp2_with fail
  refine (N1.out _ _ _ _ hS1 hA1 hB1).mono ?_
  rintro e w2 ⟨rfl, hA2, hB2, hO2⟩
  have hS2 := hS1.only2 hO2 (by omega) (by omega)
  have hR2 := hR1.only2 hO2 (by omega) (by omega)
  have hb2 := bo2 hb1 hO2 (by omega) (by omega)
  clear hS1 hR1 hA1 hB1 hb1 hO2
  have lb2 := hB2.lt
  go_wp2_with fail
  have hK2 := Blk.new w2 50 #[.int .u8 2, .int .u64 tx, .int .u32 0, .int .u16 0, .string ⟨#[]⟩, .string ⟨#[]⟩, .bool false, .int .u64 0, .int .u32 0, .int .u16 0, .string ⟨#[]⟩, .int .i64 0]
  refine (N2.out _ _ _ _ (hS2.alloc _) (hA2.alloc _) (hB2.alloc _)).mono ?_
  rintro e w3 ⟨rfl, hA3, hB3, hO3⟩
  have hS3 := (hS2.alloc (.cells #[.int .u8 2, .int .u64 tx, .int .u32 0, .int .u16 0, .string ⟨#[]⟩, .string ⟨#[]⟩, .bool false, .int .u64 0, .int .u32 0, .int .u16 0, .string ⟨#[]⟩, .int .i64 0] 50)).only2 hO3 (by omega) (by omega)
  have hR3 := (hR2.alloc (.cells #[.int .u8 2, .int .u64 tx, .int .u32 0, .int .u16 0, .string ⟨#[]⟩, .string ⟨#[]⟩, .bool false, .int .u64 0, .int .u32 0, .int .u16 0, .string ⟨#[]⟩, .int .i64 0] 50)).only2 hO3 (by omega) (by omega)
  have hK3 := hK2.only2 hO3 (by omega) (by omega)
  have hb3 := bo2 (ba hb2 (.cells #[.int .u8 2, .int .u64 tx, .int .u32 0, .int .u16 0, .string ⟨#[]⟩, .string ⟨#[]⟩, .bool false, .int .u64 0, .int .u32 0, .int .u16 0, .string ⟨#[]⟩, .int .i64 0] 50)) hO3 (by omega) (by omega)
  clear hS2 hR2 hA2 hB2 hb2 hO3 hK2
  generalize w2.heap.size = K at *
  have ck3 := hK3.cell
  have fk3 := hK3.frozen
  have lk3 := hK3.lt
  go_wp2_with fail
  refine (N3.out _ _ _ _ (hS3.far (p := ⟨K, 2, none⟩) (by show _ ≠ K; omega) _) (hA3.far (p := ⟨K, 2, none⟩) (by show _ ≠ K; omega) _) (hB3.far (p := ⟨K, 2, none⟩) (by show _ ≠ K; omega) _)).mono ?_
  rintro e w4 ⟨rfl, hA4, hB4, hO4⟩
  have hS4 := (hS3.far (p := ⟨K, 2, none⟩) (by show _ ≠ K; omega) (.int .u32 pg)).only2 hO4 (by omega) (by omega)
  have hR4 := (hR3.far (p := ⟨K, 2, none⟩) (by show _ ≠ K; omega) (.int .u32 pg)).only2 hO4 (by omega) (by omega)
  have hK4 : Blk w4 K 50 #[.int .u8 2, .int .u64 tx, .int .u32 pg, .int .u16 0, .string ⟨#[]⟩, .string ⟨#[]⟩, .bool false, .int .u64 0, .int .u32 0, .int .u16 0, .string ⟨#[]⟩, .int .i64 0] := (hK3.set_ 2 (.int .u32 pg)).only2 hO4 (by omega) (by omega)
  have hb4 := bo2 (bs hb3 (p := ⟨K, 2, none⟩) (by show _ ≤ K; omega) (.int .u32 pg)) hO4 (by omega) (by omega)
  clear hS3 hR3 hA3 hB3 hb3 hO4 hK3 ck3 fk3 lk3
  have ck4 := hK4.cell
  have fk4 := hK4.frozen
  have cs4 := hS4.cell
  have ca4 := hA4.cell
  have cb4 := hB4.cell
  have cr4 := hR4.cell
  have fr4 := hR4.frozen
  have lk4 := hK4.lt
  have nks : K ≠ w.heap.size := by omega
  have nkr : K ≠ w.heap.size + 1 := by omega
  have nka : K ≠ w.heap.size + 1 + 1 := by omega
  have nkb : K ≠ w.heap.size + 1 + 1 + 1 := by omega
  go_wp2_with fail
  rw [HEX.out]
  refine (HD.out _).mono ?_
  rintro e w5 ⟨rfl, hb5⟩
  have hK5 : Blk w5 K 50 #[.int .u8 2, .int .u64 tx, .int .u32 pg, .int .u16 sl, .string ⟨E.toArray⟩, .string ⟨#[]⟩, .bool false, .int .u64 0, .int .u32 0, .int .u16 0, .string ⟨#[]⟩, .int .i64 0] := ((hK4.set_ 3 (.int .u16 sl)).set_ 4 (.string ⟨E.toArray⟩)).after hb5
  have hR5 := ((hR4.far (p := ⟨K, 3, none⟩) (Ne.symm nkr) (.int .u16 sl)).far (p := ⟨K, 4, none⟩) (Ne.symm nkr) (.string ⟨E.toArray⟩)).after hb5
  have hb5' := bt (bs (bs hb4 (p := ⟨K, 3, none⟩) (by show _ ≤ K; omega) (.int .u16 sl)) (p := ⟨K, 4, none⟩) (by show _ ≤ K; omega) (.string ⟨E.toArray⟩)) hb5
  clear hK4 hR4 hb4 hA4 hB4 hS4 ck4 fk4 cs4 ca4 cb4 cr4 fr4 hb5
  have ck5 := hK5.cell
  have fk5 := hK5.frozen
  have lk5 := hK5.lt
  have nk5 : K ≠ w5.heap.size := Nat.ne_of_lt lk5
  have mk5 : w5.heap.size ≠ K := Ne.symm nk5
  go_wp2_with fail
  have hJ6 := Blk.new w5 31 #[.string ⟨k.toArray⟩, .bool mk, .int .u64 wtx, .int .u32 wpg, .int .u16 wsl, .string ⟨v.toArray⟩, .int .i64 pad]
  have hK6 := hK5.alloc (.cells #[.string ⟨k.toArray⟩, .bool mk, .int .u64 wtx, .int .u32 wpg, .int .u16 wsl, .string ⟨v.toArray⟩, .int .i64 pad] 31)
  have hR6 := hR5.alloc (.cells #[.string ⟨k.toArray⟩, .bool mk, .int .u64 wtx, .int .u32 wpg, .int .u16 wsl, .string ⟨v.toArray⟩, .int .i64 pad] 31)
  have hb6 := ba hb5' (.cells #[.string ⟨k.toArray⟩, .bool mk, .int .u64 wtx, .int .u32 wpg, .int .u16 wsl, .string ⟨v.toArray⟩, .int .i64 pad] 31)
  clear hK5 hR5 hb5' ck5 fk5 lk5
  generalize w5.alloc (.cells #[.string ⟨k.toArray⟩, .bool mk, .int .u64 wtx, .int .u32 wpg, .int .u16 wsl, .string ⟨v.toArray⟩, .int .i64 pad] 31) = W6 at *
  generalize w5.heap.size = J at *
  have cj6 := hJ6.cell
  have ck6 := hK6.cell
  have fk6 := hK6.frozen
  have lk6 := hK6.lt
  have lj6 := hJ6.lt
  go_region_held3 (fun w' => w'.cell? ⟨J, 0, none⟩ = some (.string ⟨k.toArray⟩) ∧ w'.cell? ⟨J, 1, none⟩ = some (.bool mk) ∧ w'.cell? ⟨J, 2, none⟩ = some (.int .u64 wtx) ∧ w'.cell? ⟨J, 3, none⟩ = some (.int .u32 wpg) ∧ w'.cell? ⟨J, 4, none⟩ = some (.int .u16 wsl) ∧ w'.cell? ⟨J, 5, none⟩ = some (.string ⟨v.toArray⟩) ∧ w'.cell? ⟨J, 6, none⟩ = some (.int .i64 pad)) (go_keep) (fail)
  go_wp2_with fail
  have hK5 := ((((((((hK6.set_ 5 (.string ⟨k.toArray⟩)).set_ 6 (.bool mk)).set_ 7 (.int .u64 wtx)).set_ 8 (.int .u32 wpg)).set_ 9 (.int .u16 wsl)).set_ 10 (.string ⟨v.toArray⟩)).set_ 11 (.int .i64 pad)).set_ 4 (.string ⟨k.toArray⟩)).drew
  have hR5 := ((((((((hR6.far (p := ⟨K, 5, none⟩) (Ne.symm nkr) (.string ⟨k.toArray⟩)).far (p := ⟨K, 6, none⟩) (Ne.symm nkr) (.bool mk)).far (p := ⟨K, 7, none⟩) (Ne.symm nkr) (.int .u64 wtx)).far (p := ⟨K, 8, none⟩) (Ne.symm nkr) (.int .u32 wpg)).far (p := ⟨K, 9, none⟩) (Ne.symm nkr) (.int .u16 wsl)).far (p := ⟨K, 10, none⟩) (Ne.symm nkr) (.string ⟨v.toArray⟩)).far (p := ⟨K, 11, none⟩) (Ne.symm nkr) (.int .i64 pad)).far (p := ⟨K, 4, none⟩) (Ne.symm nkr) (.string ⟨k.toArray⟩)).drew
  have hb5' := bd (bs (bs (bs (bs (bs (bs (bs (bs hb6 (p := ⟨K, 5, none⟩) (by show _ ≤ K; omega) (.string ⟨k.toArray⟩)) (p := ⟨K, 6, none⟩) (by show _ ≤ K; omega) (.bool mk)) (p := ⟨K, 7, none⟩) (by show _ ≤ K; omega) (.int .u64 wtx)) (p := ⟨K, 8, none⟩) (by show _ ≤ K; omega) (.int .u32 wpg)) (p := ⟨K, 9, none⟩) (by show _ ≤ K; omega) (.int .u16 wsl)) (p := ⟨K, 10, none⟩) (by show _ ≤ K; omega) (.string ⟨v.toArray⟩)) (p := ⟨K, 11, none⟩) (by show _ ≤ K; omega) (.int .i64 pad)) (p := ⟨K, 4, none⟩) (by show _ ≤ K; omega) (.string ⟨k.toArray⟩))
  simp only [List.setIfInBounds_toArray, List.set_cons_succ, List.set_cons_zero] at hK5
  clear hK6 hR6 hb6 ck6 fk6 lk6 cj6 hJ6 lj6
  refine (HM.out _).mono ?_
  rintro e w5 ⟨rfl, hb5⟩
  have hK6 := hK5.after hb5
  have hR6 := hR5.after hb5
  have hb6 := bt hb5' hb5
  clear hK5 hR5 hb5 hb5'
  have ck6 := hK6.cell
  have cr6 := hR6.cell
  have fr6 := hR6.frozen
  have lk6 := hK6.lt
  have lr6 := hR6.lt
  go_wp2_with fail
  refine bodyPost_ret (v := .tuple #[.agg #[.int .u8 2, .int .u64 tx, .int .u32 pg, .int .u16 sl, .string ⟨k.toArray⟩, .string ⟨k.toArray⟩, .bool mk, .int .u64 wtx, .int .u32 wpg, .int .u16 wsl, .string ⟨v.toArray⟩, .int .i64 pad], .int .i64 0]) (by simp [results, Try.results15, go_sem, cr6, fr6, ck6]) rfl ⟨rfl, ?_⟩
  exact bs (bs (bs (bs (bs (bs (bs (bs (bs (bs (bs (bs (hb6) (p := ⟨w.heap.size + 1, 0, none⟩) (Nat.le_succ _) _) (p := ⟨w.heap.size + 1, 1, none⟩) (Nat.le_succ _) _) (p := ⟨w.heap.size + 1, 2, none⟩) (Nat.le_succ _) _) (p := ⟨w.heap.size + 1, 3, none⟩) (Nat.le_succ _) _) (p := ⟨w.heap.size + 1, 4, none⟩) (Nat.le_succ _) _) (p := ⟨w.heap.size + 1, 5, none⟩) (Nat.le_succ _) _) (p := ⟨w.heap.size + 1, 6, none⟩) (Nat.le_succ _) _) (p := ⟨w.heap.size + 1, 7, none⟩) (Nat.le_succ _) _) (p := ⟨w.heap.size + 1, 8, none⟩) (Nat.le_succ _) _) (p := ⟨w.heap.size + 1, 9, none⟩) (Nat.le_succ _) _) (p := ⟨w.heap.size + 1, 10, none⟩) (Nat.le_succ _) _) (p := ⟨w.heap.size + 1, 11, none⟩) (Nat.le_succ _) _
end Go.Proofs.Ytaddjpngjhkkmaa
