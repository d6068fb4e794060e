/- The law, whole: it returns true, and what was there ahead is as it was. -/
import Derived.Test.YtkbjmgenceghlaaV12
import Derived.Test.YtkbjmgenceghlaaV13
import Derived.Test.YtkbjmgenceghlaaV14
namespace Go.Proofs.Ytkbjmgenceghlaa
open Go.RowKit
attribute [local go_sem ↓] Go.wp_at_zero Go.wp_at_succ
theorem info9z : ∃ i z, Try.prog.info? 9 = some i ∧ i.zero = some z ∧ i.size = 1 ∧ i.bytes = 16 ∧ z.cells = #[Value.string ⟨#[]⟩] := info_of (c := 0) (by kernel_rfl)
theorem run_make_strs (n : Nat) (W : World) (hn : n ≤ 100000) : (Instr.makeSlice 28 (.int .i64 n) (.int .i64 n)).run Try.prog W = .ok (.slice (some ⟨W.heap.size, 0, none⟩) n n) (W.alloc (.cells (sureArr (List.replicate n [])) 9)) := by
  obtain ⟨i, z, hi, hz, hs, hby, hzc⟩ := info9z
  have hmk := run_make (P := Try.prog) W 28 9 i z Try.underlying28 hi hz .i64 .i64 n n (by omega) (Int.le_refl _) (by rw [hby]; omega) (by omega)
  rw [Int.toNat_natCast, hs, Nat.mul_one] at hmk
  have e : madeCells z.cells n = sureArr (List.replicate n []) := by
    apply Array.ext
    · simp [madeCells, sureArr]
    · intro i h1 h2
      simp [madeCells, hzc, Nat.mod_one, sureArr, strCell]
  rw [hmk, e]
theorem run_make_sure (W : World) : (Instr.makeSlice 28 (.int .i64 87) (.int .i64 87)).run Try.prog W = .ok (.slice (some ⟨W.heap.size, 0, none⟩) 87 87) (W.alloc (.cells (sureArr (List.replicate 87 [])) 9)) := run_make_strs 87 W (by omega)
set_option maxRecDepth 1000000 in
set_option maxHeartbeats 8000000 in
theorem law_true (lp : Option Addr) (an acp : Nat) (kv : Value) (keep : List Bool) (x : Nat → Nat → Nat) (w : World) (hA : ActsAt w.heap.size w lp an x) (hac : an ≤ acp) (hm : acp ≤ 9223372036854775807) (hk : BoolsAt w.heap.size w kv keep) (hkl : keep.length ≤ 9223372036854775807) :
    Calls Try.prog 3 #[.slice lp an acp, kv] w fun e w' => e = .returned (.bool true) ∧ Below w.heap.size w w' := by
  obtain ⟨kp, kc, rfl⟩ : ∃ kp kc, kv = .slice kp keep.length kc := by
    obtain ⟨p, c, e, _⟩ := hk
    exact ⟨p, c, e⟩
  have hb1 := ba (Below.refl w.heap.size w) (.cells #[.slice kp keep.length kc] 23)
  have hB1 := Blk.newAt w 23 #[.slice kp keep.length kc] (g := w.heap.size) rfl
  have HN : ∀ W, Below w.heap.size w W → Calls Try.prog 4 #[.int .i64 87] W fun e w' => ∃ d, e = .returned (.tuple #[.pointer (some ⟨d, 0, none⟩), .int .i64 0]) ∧ IsDisk w' w.heap.size d ⟨List.replicate 87 (Pm.zeros 128), [], -1⟩ ∧ Below W.heap.size W w' := fun W h => new_any 87 W w.heap.size h.size (by omega) (by omega)
  replace hA := Lib.hid hA
  replace hk := Lib.hid hk
  obtain ⟨u0, hu0⟩ : ∃ u0, u0 = (List.replicate 87 [] : List (List UInt8)) := ⟨_, rfl⟩
  have hmk : ∀ W, (Instr.makeSlice 28 (.int .i64 87) (.int .i64 87)).run Try.prog W = .ok (.slice (some ⟨W.heap.size, 0, none⟩) 87 87) (W.alloc (.cells (sureArr u0) 9)) := fun W => by rw [hu0]; exact run_make_sure W
  have HU0 := Lib.hid hu0
  obtain ⟨uz, huz⟩ : ∃ uz, uz = List.replicate 87 (Pm.zeros 128) := ⟨_, rfl⟩
  rw [← huz] at HN
  replace HN := Lib.hid HN
  have hul : u0.length = 87 := by rw [hu0]; simp
  have huzl : uz.length = 87 := by rw [huz]; simp
  have HUL := Lib.hid hul
  have HUZL := Lib.hid huzl
  have HUZ := Lib.hid huz
  clear hu0 huz hul huzl
  go_enter Try.func3, Try.ntmps3
  refine Go.wp_seq_k (fun K hK => ?_)
  replace hK := Lib.hid hK
  go_wp2_with fail
  refine hK.out _ _ ?_
  clear hK K
  have HN1 := Lib.hid (HN.out _ hb1)
  generalize w.alloc (.cells #[.slice kp keep.length kc] 23) = W1 at *
  refine Go.wp_seq_k (fun K hK => ?_)
  replace hK := Lib.hid hK
  go_wp2_with fail
  refine (HN1.out).mono ?_
  rintro e W2 ⟨d, rfl, hD, hb2⟩
  replace hD := Lib.hid hD
  go_wp2_with fail
  refine hK.out _ _ ?_
  clear hK K
  refine Go.wp_seq_k (fun K hK => ?_)
  replace hK := Lib.hid hK
  go_wp2_with fail
  refine hK.out _ _ ?_
  clear hK K
  have hB2 := hB1.after hb2
  have hb02 := bt hb1 hb2
  clear hB1 hb1 hb2 HN1 HN
  refine Go.wp_seq_k (fun K hK => ?_)
  replace hK := Lib.hid hK
  go_wp2_with fail
  refine hK.out _ _ ?_
  clear hK K
  have hb3 := ba (Below.refl W2.heap.size W2) (.cells (sureArr u0) 9)
  have hR3 := Blk.newAt W2 9 (sureArr u0) (g := W2.heap.size) rfl
  have hz3 : (W2.alloc (.cells (sureArr u0) 9)).heap.size = W2.heap.size + 1 := by simp
  have hX4 := Blk.newAt (W2.alloc (.cells (sureArr u0) 9)) 28 #[.slice (some ⟨W2.heap.size, 0, none⟩) 87 87] (g := W2.heap.size + 1) hz3
  have hb4 := ba (Below.refl (W2.alloc (.cells (sureArr u0) 9)).heap.size (W2.alloc (.cells (sureArr u0) 9))) (.cells #[.slice (some ⟨W2.heap.size, 0, none⟩) 87 87] 28)
  have hR4 := hR3.after hb4
  have hD4 := (hD.out.below hb3).below hb4
  have hB4 := (hB2.after hb3).after hb4
  have hb04 := bt (bt hb02 hb3) hb4
  have hgs : w.heap.size ≤ W2.heap.size := hb02.size
  generalize (W2.alloc (.cells (sureArr u0) 9)).alloc (.cells #[.slice (some ⟨W2.heap.size, 0, none⟩) 87 87] 28) = W4 at *
  generalize W2.heap.size = gs at *
  clear hb3 hR3 hz3 hb4 hD hB2 hb02 hmk
  have hS4 : SureAt W4 (gs + 1) gs u0 := ⟨by rw [HUL.out]; exact hX4, hR4⟩
  obtain ⟨bx, hbx⟩ : ∃ b, b = gs + 1 := ⟨_, rfl⟩
  obtain ⟨bk, hbk⟩ : ∃ b, b = w.heap.size := ⟨_, rfl⟩
  rw [← hbx] at hS4 ⊢
  rw [← hbk] at hB4
  have hL4 : LawAt w.heap.size w W4 d bx gs bk (.slice kp keep.length kc) keep ⟨uz, [], -1⟩ u0 := ⟨hD4, hS4, hB4, hk.out.kept (Kept.below hb04), hgs, Nat.le_refl _, hb04⟩
  rw [← hbk]
  have HBK := Lib.hid hbk
  clear hX4 hR4 hD4 hB4 hb04 hgs hbx hbk
  refine Go.wp_seq_k (fun K hK => ?_)
  rw [HU0.out] at hS4
  refine law_fill bx gs W4 _ hS4 ?_
  intro v8 v47 v48 v49 v50 v51 v52 v53 v54 v55 v56 w5 hS5 hO5
  refine hK _ _ ?_
  clear hK K
  rw [← HUZ.out] at hS5
  have hL5 := hL4.only hO5 hS5
  have hG5 : Pm.Good uz [] := ⟨HUZL.out, fun s hs => by rw [HUZ.out] at hs; rw [List.eq_of_mem_replicate hs]; exact Pm.zeros_length _, .inl (by rw [HUZ.out]; rfl)⟩
  have hz5 : Pm.sec uz 2 = Pm.zeros 128 := by rw [HUZ.out]; rfl
  have hbox := hL5.sure.box.cell 0
  rw [HUZL.out] at hbox
  change _ = some (Value.slice (some ⟨gs, 0, none⟩) 87 87) at hbox
  have hc0 : w5.cell? ⟨gs, 0, none⟩ = some (.string ⟨(Pm.zeros 128).toArray⟩) := (hL5.sure.row.cell 0).trans ((sureArr_get uz 0 (by rw [HUZL.out]; omega)).trans (by simp only [HUZ.out, List.getElem_replicate]; rfl))
  replace hG5 := Lib.hid hG5
  replace hz5 := Lib.hid hz5
  replace hL5 := Lib.hid hL5
  clear hL4 hO5 hS5 hS4
  refine Go.wp_seq_k (fun K hK => ?_)
  replace hK := Lib.hid hK
  go_wp2_with fail
  refine hK.out _ _ ?_
  clear hK K
  clear hbox hc0
  refine Go.wp_seq_k (fun K hK => ?_)
  replace hK := Lib.hid hK
  go_wp2_with fail
  refine hK.out _ _ ?_
  clear hK K
  refine Go.wp_seq_k (fun K hK => ?_)
  replace hK := Lib.hid hK
  go_wp2_with fail
  refine hK.out _ _ ?_
  clear hK K
  refine Go.wp_seq_k (fun K hK => ?_)
  refine law_acts w.heap.size d bx gs bk an acp lp x (.slice kp keep.length kc) keep uz w w5 _ hL5.out hG5.out hz5.out hA.out hac hm hkl ?_
  intro x4 x12 x13 x14 x15 x16 x17 x18 x19 x20 x21 x22 x23 x24 x25 x26 x28 x29 x30 x31 x32 x33 x34 x35 x36 x61 x62 x63 x64 x65 x66 x67 x68 x69 x70 x71 x72 x73 x74 x75 x76 x77 x78 x79 x80 x81 x82 x83 x84 x85 x86 x87 x88 x89 x90 x91 x92 x93 x94 x95 x96 x97 x98 x99 x100 x101 x102 x103 x104 x105 x106 x107 x108 x109 x110 x111 x112 x113 x114 x115 x116 x117 x118 x119 x120 x121 x122 x123 x124 x125 x126 x127 x128 x129 x130 x131 x132 x133 x134 x135 x136 x137 x138 x139 x140 x141 x142 x143 x144 x145 x146 x147 x148 x149 x150 x151 x152 x153 x154 x155 x156 x157 x158 x159 x160 x161 x162 x163 x164 x165 x166 x167 x168 x169 x170 x171 x172 x173 x174 x175 x176 x177 x178 x179 x180 x181 x182 x183 x184 x185 x186 x187 x188 x189 x190 x191 x192 x193 x194 x195 x196 x197 x198 x199 x200 x201 x202 x203 x204 x205 x206 x207 x208 x209 x210 x211 x212 x213 x214 x215 x216 x217 x218 x219 x220 x221 x222 x223 x224 x225 x226 x227 x228 x229 x230 x231 x232 x233 x234 x235 x236 x237 x238 x239 x240 x241 x242 x243 x244 x245 x246 x247 x248 x249 x250 x251 x252 x253 x254 x255 x256 x257 x258 x259 x260 x261 x262 x263 x264 x265 x266 x267 x268 x269 x270 x271 x272 x273 x274 x275 x276 x277 x278 x279 x280 x281 x282 x283 x284 x285 x286 x287 x288 x289 x290 x291 x292 x293 x294 x295 x296 x297 x298 x299 x300 x301 x302 x303 x304 x305 x306 x307 x308 x309 x310 x311 x312 x313 x314 x315 x316 x317 x318 x319 x320 x321 x322 x323 w6 u6 hG6 hL6
  refine hK _ _ ?_
  clear hK K hL5
  refine Go.wp_seq_k (fun K hK => ?_)
  refine law_end w.heap.size d bx gs bk (.slice kp keep.length kc) keep u6 w w6 _ hL6 hG6 ?_
  intro y4 y37 y38 y39 y324 y325 y326 y327 y328 y329 y330 y331 y332 y333 y334 y335 y336 y337 y338 y339 y340 y341 y342 y343 y344 y345 y346 y347 y348 y349 y350 y351 w7 hb7
  refine hK _ _ ?_
  clear hK K
  have hfin := Lib.hid (bt hL6.below hb7)
  clear hL6 hG6
  go_wp2_with fail
  go_ret
  exact ⟨rfl, by rw [HBK.out]; exact hfin.out⟩
end Go.Proofs.Ytkbjmgenceghlaa
