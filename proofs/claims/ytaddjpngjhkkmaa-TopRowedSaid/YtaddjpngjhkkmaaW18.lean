/- The law from its start on: what the code answers, as lemmas for every input that their premises allow; a part of the proof of TopRowed. -/
import Derived.Test.YtaddjpngjhkkmaaW17
import Derived.Test.YtaddjpngjhkkmaaW27
import Derived.Deep.CutBlock
namespace Go.Proofs.Ytaddjpngjhkkmaa
open Go.RowKit
attribute [local go_sem ↓] Go.wp_at_zero Go.wp_at_succ
attribute [local go_sem ↓] add_short
theorem more_any (k v : List UInt8) (mk : Bool) (tx rp rs pad : Nat) (hk : k.length ≤ 48) (hv : v.length ≤ 96) (hpad : pad ≤ 96) (htx : tx < 18446744073709551616) (hrp : rp ≤ 1024) (hrs : rs < 65536) (hm : Pm.may k v rp rs pad = true) :
    ∃ (k2 v2 : List UInt8) (mk2 : Bool) (tx2 rp2 rs2 : Nat) (pad2 e2 : Int) (b : Bool), decide ((v.length : Int) + (pad : Int) < 96) = b ∧ (e2 == 0) = b ∧ (b = true → pad2 = (pad : Int) + 1) ∧
      ∀ W, Calls Try.prog 6 #[.string ⟨(Pm.enc k v mk tx rp rs pad ++ [0]).toArray⟩] W fun e w' => e = .returned (.tuple #[.agg #[.string ⟨k2.toArray⟩, .bool mk2, .int .u64 tx2, .int .u32 rp2, .int .u16 rs2, .string ⟨v2.toArray⟩, .int .i64 pad2], .int .i64 e2]) ∧ Below W.heap.size W w' := by
  have hg := rdGood_more k v mk tx rp rs pad hk hv htx hrp hrs hm
  have hl := enc_length k v mk tx rp rs pad
  by_cases h : v.length + pad < 96
  · refine ⟨k, v, mk, tx, rp, rs, (pad : Int) + 1, 0, true, by simp; omega, rfl, fun _ => rfl, fun W => ?_⟩
    have c := decode_enc k v mk tx rp rs (pad + 1) W hk hv htx hrp hrs (by rw [may_more k v rp rs pad hm]; simpa using h)
    rw [← enc_more] at c
    exact c
  · refine ⟨[], [], false, 0, 0, 0, 0, 7, false, by simp; omega, rfl, fun h => by simp at h, fun W => ?_⟩
    exact decode_no _ W (by simp; omega) (by rw [hg]; simpa using h)
theorem less_any (k v : List UInt8) (mk : Bool) (tx rp rs pad : Nat) (hk : k.length ≤ 48) (hv : v.length ≤ 96) (hpad : pad ≤ 96) (htx : tx < 18446744073709551616) (hrp : rp ≤ 1024) (hrs : rs < 65536) (hm : Pm.may k v rp rs pad = true) :
    ∃ (k2 v2 : List UInt8) (mk2 : Bool) (tx2 rp2 rs2 : Nat) (pad2 e2 : Int) (b : Bool), decide (0 < (pad : Int)) = b ∧ (e2 == 0) = b ∧
      ∀ W, Calls Try.prog 6 #[.string ⟨((Pm.enc k v mk tx rp rs pad).take ((Pm.enc k v mk tx rp rs pad).length - 1)).toArray⟩] W fun e w' => e = .returned (.tuple #[.agg #[.string ⟨k2.toArray⟩, .bool mk2, .int .u64 tx2, .int .u32 rp2, .int .u16 rs2, .string ⟨v2.toArray⟩, .int .i64 pad2], .int .i64 e2]) ∧ Below W.heap.size W w' := by
  have hg := rdGood_less k v mk tx rp rs pad hk hv htx hrp hrs hm
  have hl := enc_length k v mk tx rp rs pad
  have hll : ((Pm.enc k v mk tx rp rs pad).take ((Pm.enc k v mk tx rp rs pad).length - 1)).length ≤ 100000 := by rw [List.length_take]; omega
  by_cases h : 0 < pad
  · exact ⟨_, _, _, _, _, _, _, 0, true, by simp; omega, rfl, fun W => decode_yes _ W hll (by rw [hg]; simpa using h)⟩
  · refine ⟨[], [], false, 0, 0, 0, 0, 7, false, by simp; omega, rfl, fun W => ?_⟩
    exact decode_no _ W hll (by rw [hg]; simpa using h)
set_option maxRecDepth 1000000 in
set_option maxHeartbeats 40000000 in
theorem law_walk (ky lo va pd tx pg sl kd m0 m1 m2 m3 : Nat) (mk : Bool) (w : World) (hky : ky < 256) (hlo : lo < 256) (hva : va < 256) (hpd : pd < 256) (htx : tx < 65536) (hpg : pg < 65536) (hsl : sl < 65536) (hkd : kd < 256) (hm0 : m0 < 4294967296) (hm1 : m1 < 4294967296) (hm2 : m2 < 4294967296) (hm3 : m3 < 4294967296) :
    Calls Try.prog 3 #[.agg #[.int .u8 ky, .int .u8 lo, .int .u8 va, .int .u8 pd, .bool mk, .int .u16 tx, .int .u16 pg, .int .u16 sl], .int .u8 kd, .agg #[.int .u32 m0, .int .u32 m1, .int .u32 m2, .int .u32 m3]] w fun e w' => e = .returned (.bool true) ∧ Below w.heap.size w w' := by
  have HRow := Lib.hid (fun W => cell_row ky lo va pd tx pg sl mk W hky hlo hva hpd htx hpg hsl)
  go_enter Try.func3, Try.ntmps3
  go_wp2_with fail
  have hC0 := (Blk.new w 24 #[.int .u8 ky, .int .u8 lo, .int .u8 va, .int .u8 pd, .bool mk, .int .u16 tx, .int .u16 pg, .int .u16 sl]).alloc (.cells #[.int .u32 m0, .int .u32 m1, .int .u32 m2, .int .u32 m3] 26)
  have hN0 : Blk ((w.alloc (.cells #[.int .u8 ky, .int .u8 lo, .int .u8 va, .int .u8 pd, .bool mk, .int .u16 tx, .int .u16 pg, .int .u16 sl] 24)).alloc (.cells #[.int .u32 m0, .int .u32 m1, .int .u32 m2, .int .u32 m3] 26)) (w.heap.size + 1) 26 #[.int .u32 m0, .int .u32 m1, .int .u32 m2, .int .u32 m3] := by
    have h := Blk.new (w.alloc (.cells #[.int .u8 ky, .int .u8 lo, .int .u8 va, .int .u8 pd, .bool mk, .int .u16 tx, .int .u16 pg, .int .u16 sl] 24)) 26 #[.int .u32 m0, .int .u32 m1, .int .u32 m2, .int .u32 m3]
    simpa using h
  have hb0 : Below w.heap.size w ((w.alloc (.cells #[.int .u8 ky, .int .u8 lo, .int .u8 va, .int .u8 pd, .bool mk, .int .u16 tx, .int .u16 pg, .int .u16 sl] 24)).alloc (.cells #[.int .u32 m0, .int .u32 m1, .int .u32 m2, .int .u32 m3] 26)) := ba (ba (Below.refl _ _) _) _
  refine (HRow.out _).mono ?_
  rintro e w1 ⟨k, v, rp, rs, pad, hk, hv, hrp, hrs, hpad, hmay, rfl, hb1⟩
  have hC1 := hC0.after hb1
  have hN1 := hN0.after hb1
  have hx1 := bt hb0 hb1
  clear hC0 hN0 hb0 hb1 HRow hky hlo hva hpd hpg
  have hR1 := Blk.new w1 31 #[.string ⟨k.toArray⟩, .bool mk, .int .u64 tx, .int .u32 rp, .int .u16 rs, .string ⟨v.toArray⟩, .int .i64 pad]
  have htx64 : tx < 18446744073709551616 := by omega
  have HE1 := Lib.hid (fun W => row_encode_yes k v mk tx rp rs pad W hk hv hpad hrp hrs htx64 hmay)
  have HE2 := Lib.hid (fun W => rowed_any k v mk tx rp rs pad W (by omega) (by omega) (by omega) (by omega) hrs)
  have HE3 := Lib.hid (fun W => decode_enc k v mk tx rp rs pad W hk hv htx64 hrp hrs hmay)
  have hlE := enc_length k v mk tx rp rs pad
  have HE4 := Lib.hid (fun W (hp : -1000000 ≤ (pad : Int) ∧ (pad : Int) ≤ 1000000) => row_size k v mk tx rp rs pad W (by omega) (by omega) hp (by omega) hrs)
  have HE5 := Lib.hid (fun W (hp : -1000000 ≤ (pad : Int) ∧ (pad : Int) ≤ 1000000) => row_may k v mk tx rp rs pad W (by omega) (by omega) hp (by omega) hrs)
  obtain ⟨k2, v2, mk2, tx2, rp2, rs2, pad2, e2, b2, hfit, he2, hp2, HD2⟩ := more_any k v mk tx rp rs pad hk hv hpad htx64 hrp hrs hmay
  obtain ⟨k3, v3, mk3, tx3, rp3, rs3, pad3, e3, b3, hfit3, he3, HD3⟩ := less_any k v mk tx rp rs pad hk hv hpad htx64 hrp hrs hmay
  have hk1 : 1 ≤ k.length := by
    have h := hmay
    simp only [Pm.may, decide_eq_true_eq] at h
    omega
  have HMay := Lib.hid hmay
  have HT64 := Lib.hid htx64
  obtain ⟨E, hE⟩ : ∃ E, E = Pm.enc k v mk tx rp rs pad := ⟨_, rfl⟩
  rw [← hE] at HE1 HE2 HE3 hlE HD2 HD3
  rw [hmay] at HE5
  rw [if_pos hmay, show (17 + (k.length : Int) + v.length + pad) = (E.length : Int) by omega] at HE4
  replace HD2 := Lib.hid HD2
  replace HD3 := Lib.hid HD3
  have hp2' := Lib.hid hp2
  have hlE2 : E.length ≤ 1000 := by omega
  have hlE3 : 1 ≤ E.length := by omega
  clear hlE hp2
  have : Short E 1000 := ⟨hlE2⟩
  have HEq := Lib.hid hE
  clear hE hmay htx64
  go_wp2_with fail
  refine (HE1.out _).mono ?_
  rintro e w2 ⟨rfl, hb2⟩
  have hC2 := (hC1.alloc (.cells #[.string ⟨k.toArray⟩, .bool mk, .int .u64 tx, .int .u32 rp, .int .u16 rs, .string ⟨v.toArray⟩, .int .i64 pad] 31)).after hb2
  have hN2 := (hN1.alloc (.cells #[.string ⟨k.toArray⟩, .bool mk, .int .u64 tx, .int .u32 rp, .int .u16 rs, .string ⟨v.toArray⟩, .int .i64 pad] 31)).after hb2
  have hR2 := hR1.after hb2
  have hx2 := bt (ba hx1 (.cells #[.string ⟨k.toArray⟩, .bool mk, .int .u64 tx, .int .u32 rp, .int .u16 rs, .string ⟨v.toArray⟩, .int .i64 pad] 31)) hb2
  have hRg : w.heap.size + 1 < w1.heap.size := hN1.lt
  clear hC1 hN1 hR1 hx1 hb2
  generalize w1.heap.size = R at *
  have cR2 := hR2.cell
  go_wp2_with fail
  refine (HE2.out _).mono ?_
  rintro e w3 ⟨rfl, hb3⟩
  have hC3 := hC2.after hb3
  have hN3 := hN2.after hb3
  have hR3 := hR2.after hb3
  have hx3 := bt hx2 hb3
  clear hC2 hN2 hR2 hx2 hb3 cR2
  go_wp2_with fail
  refine (HE3.out _).mono ?_
  rintro e w4 ⟨rfl, hb4⟩
  have hC4 := hC3.after hb4
  have hN4 := hN3.after hb4
  have hR4 := hR3.after hb4
  have hx4 := bt hx3 hb4
  clear hC3 hN3 hR3 hx3 hb4
  have cR4 := hR4.cell
  have lR4 := hR4.lt
  go_wp2_with fail
  refine (HE2.out _).mono ?_
  rintro e w5 ⟨rfl, hb5⟩
  have hB5 := (Blk.new w4 31 #[.string ⟨k.toArray⟩, .bool mk, .int .u64 tx, .int .u32 rp, .int .u16 rs, .string ⟨v.toArray⟩, .int .i64 pad]).after hb5
  have hC5 := (hC4.alloc (.cells #[.string ⟨k.toArray⟩, .bool mk, .int .u64 tx, .int .u32 rp, .int .u16 rs, .string ⟨v.toArray⟩, .int .i64 pad] 31)).after hb5
  have hN5 := (hN4.alloc (.cells #[.string ⟨k.toArray⟩, .bool mk, .int .u64 tx, .int .u32 rp, .int .u16 rs, .string ⟨v.toArray⟩, .int .i64 pad] 31)).after hb5
  have hR5 := (hR4.alloc (.cells #[.string ⟨k.toArray⟩, .bool mk, .int .u64 tx, .int .u32 rp, .int .u16 rs, .string ⟨v.toArray⟩, .int .i64 pad] 31)).after hb5
  have hx5 := bt (ba hx4 (.cells #[.string ⟨k.toArray⟩, .bool mk, .int .u64 tx, .int .u32 rp, .int .u16 rs, .string ⟨v.toArray⟩, .int .i64 pad] 31)) hb5
  clear hC4 hN4 hR4 hx4 hb5 cR4 lR4
  generalize w4.heap.size = B at *
  have cR5 := hR5.cell
  have cB5 := hB5.cell
  go_wp2_with fail
  refine (HE4.out _ (by omega)).mono ?_
  rintro e w6 ⟨rfl, hb6⟩
  have hB6 := hB5.after hb6
  have hC6 := hC5.after hb6
  have hN6 := hN5.after hb6
  have hR6 := hR5.after hb6
  have hx6 := bt hx5 hb6
  clear hB5 hC5 hN5 hR5 hx5 hb6 cR5 cB5
  have cR6 := hR6.cell
  go_wp2_with fail
  refine (HE5.out _ (by omega)).mono ?_
  rintro e w7 ⟨rfl, hb7⟩
  have hC7 := hC6.after hb7
  have hN7 := hN6.after hb7
  have hR7 := hR6.after hb7
  have hx7 := bt hx6 hb7
  clear hB6 hC6 hN6 hR6 hx6 hb7 cR6
  go_wp2_with fail
  refine (HD2.out _).mono ?_
  rintro e w8 ⟨rfl, hb8⟩
  have hC8 := hC7.after hb8
  have hN8 := hN7.after hb8
  have hR8 := hR7.after hb8
  have hx8 := bt hx7 hb8
  clear hC7 hN7 hR7 hx7 hb8
  have cR8 := hR8.cell
  have lR8 := hR8.lt
  cases b2
  · go_upto_if 100 with fail
    go_step
    go_step
    go_step
    go_step
    exact law_A2 ky lo va pd tx pg sl kd m0 m1 m2 m3 mk k v rp rs pad w.heap.size (w.heap.size + 1) R w _ htx hsl hkd hm0 hm1 hm2 hm3 hk1 hk hv hrp hrs hpad HMay.out E k3 v3 mk3 tx3 rp3 rs3 pad3 e3 b3 hlE3 hlE2 hfit3 he3 HD3.out (hC8.alloc (.cells #[.string ⟨k2.toArray⟩, .bool mk2, .int .u64 tx2, .int .u32 rp2, .int .u16 rs2, .string ⟨v2.toArray⟩, .int .i64 pad2] 31)) (hN8.alloc (.cells #[.string ⟨k2.toArray⟩, .bool mk2, .int .u64 tx2, .int .u32 rp2, .int .u16 rs2, .string ⟨v2.toArray⟩, .int .i64 pad2] 31)) (hR8.alloc (.cells #[.string ⟨k2.toArray⟩, .bool mk2, .int .u64 tx2, .int .u32 rp2, .int .u16 rs2, .string ⟨v2.toArray⟩, .int .i64 pad2] 31)) (ba hx8 (.cells #[.string ⟨k2.toArray⟩, .bool mk2, .int .u64 tx2, .int .u32 rp2, .int .u16 rs2, .string ⟨v2.toArray⟩, .int .i64 pad2] 31)) (by omega) hRg
  · obtain rfl : pad2 = (pad : Int) + 1 := hp2'.out rfl
    go_upto_if 100 with fail
    go_step
    go_step
    go_step
    go_step
    exact law_A2 ky lo va pd tx pg sl kd m0 m1 m2 m3 mk k v rp rs pad w.heap.size (w.heap.size + 1) R w _ htx hsl hkd hm0 hm1 hm2 hm3 hk1 hk hv hrp hrs hpad HMay.out E k3 v3 mk3 tx3 rp3 rs3 pad3 e3 b3 hlE3 hlE2 hfit3 he3 HD3.out (hC8.alloc (.cells #[.string ⟨k2.toArray⟩, .bool mk2, .int .u64 tx2, .int .u32 rp2, .int .u16 rs2, .string ⟨v2.toArray⟩, .int .i64 (pad + 1)] 31)) (hN8.alloc (.cells #[.string ⟨k2.toArray⟩, .bool mk2, .int .u64 tx2, .int .u32 rp2, .int .u16 rs2, .string ⟨v2.toArray⟩, .int .i64 (pad + 1)] 31)) (hR8.alloc (.cells #[.string ⟨k2.toArray⟩, .bool mk2, .int .u64 tx2, .int .u32 rp2, .int .u16 rs2, .string ⟨v2.toArray⟩, .int .i64 (pad + 1)] 31)) (ba hx8 (.cells #[.string ⟨k2.toArray⟩, .bool mk2, .int .u64 tx2, .int .u32 rp2, .int .u16 rs2, .string ⟨v2.toArray⟩, .int .i64 (pad + 1)] 31)) (by omega) hRg
end Go.Proofs.Ytaddjpngjhkkmaa
