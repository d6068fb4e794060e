/- The law from the segment on: what the code answers, as lemmas for every input that their premises allow; a part of the proof of TopRowed. -/
import Derived.Test.YtaddjpngjhkkmaaLt
import Derived.Test.YtaddjpngjhkkmaaW20
import Derived.Deep.CutBlock
namespace Go.Proofs.Ytaddjpngjhkkmaa
open Go.RowKit
attribute [local go_sem ↓] Go.wp_at_zero Go.wp_at_succ
attribute [local go_sem ↓] add_short
set_option maxRecDepth 1000000 in
set_option maxHeartbeats 40000000 in
theorem law_F {u0 u2 u4 u7 u8 u9 u10 u11 u12 u13 u14 u15 u16 u17 u18 u19 u20 u21 u22 u23 u24 u25 u26 u27 u28 u29 u30 u31 u32 u33 u34 u35 u36 u37 u38 u39 u40 u41 u42 u43 u44 u45 u46 u47 u48 u49 u50 u51 u52 u53 u54 u55 u56 u57 u58 u59 u60 u61 u62 u63 u64 u65 u66 u67 u68 u69 u70 u71 u72 u73 u74 u75 u76 u77 u78 u79 u80 u81 u82 u83 u84 u85 u86 u87 u88 u89 u90 u91 u92 u93 u94 u95 u96 u97 u98 u99 u100 u101 u102 u103 u104 u105 u106 u107 u108 u109 u110 u111 u112 u113 u114 u115 u116 u117 u118 u119 u120 u121 u122 u123 u124 u125 u126 u127 u128 u129 u130 u131 u132 u133 u134 u135 u136 u137 u138 u139 u140 u141 u142 u143 u144 u145 u146 u147 u148 u149 u150 u151 u152 u153 u154 u155 u156 u157 u158 u159 u160 u161 u162 u163 u164 u165 u166 u167 u168 u169 u170 u171 u172 u173 u174 u175 u176 u177 u178 u179 u180 u181 u182 u183 u184 u185 u186 u187 u188 u189 u190 u191 u192 u193 u194 u195 u196 u197 u198 u199 u200 u201 u202 u203 u204 u205 u206 u207 u208 u209 u210 u211 u212 u213 u214 u215 u216 u217 u218 u219 u220 u221 u222 u223 u224 u225 u226 u227 u228 u229 u230 u231 u232 u233 u234 u235 u236 u237 u238 u239 u240 u241 u242 u243 u244 u245 u246 u247 u248 u249 u250 u251 u252 u253 u254 u255 u256 u257 u258 u259 u260 u261 u262 u263 u264 u265 u266 u267 u268 u269 u270 u271 u272 u273 u274 u275 u276 u277 u278 u279 u280 u281 u282 u283 u284 u285 u286 u287 u288 u289 u290 u291 u292 u293 u294 u295 u296 u297 u298 u299 u300 u301 u302 u303 u304 u305 u306 u307 u308 u309 u310 u311 u312 u313 u314 u315 u316 u317 u318 u319 u320 u321 u322 u323 u324 u325 u326 u327 u328 u329 u330 u331 u332 u333 u334 u335 u336 : Value} (ky lo va pd tx pg sl kd m0 m1 m2 m3 : Nat) (mk : Bool) (X N : Nat) (w0 w : World) (htx : tx < 65536) (hsl : sl < 65536) (hkd : kd < 256) (hm0 : m0 < 4294967296) (hm1 : m1 < 4294967296) (hm2 : m2 < 4294967296) (hm3 : m3 < 4294967296)
    (hC : Blk w X 24 #[.int .u8 ky, .int .u8 lo, .int .u8 va, .int .u8 pd, .bool mk, .int .u16 tx, .int .u16 pg, .int .u16 sl]) (hN : Blk w N 26 #[.int .u32 m0, .int .u32 m1, .int .u32 m2, .int .u32 m3]) (hx : Below w0.heap.size w0 w) :
    Code.wp Try.prog (lawTail 19) (bodyPost Try.prog Try.f3 fun e w' => e = .returned (.bool true) ∧ Below w0.heap.size w0 w') ⟨List.toArray (u0 :: Value.int .u8 kd :: u2 :: Value.pointer (some ⟨X, 0, none⟩) :: u4 :: Value.pointer (some ⟨N, 0, none⟩) :: Value.bool false :: u7 :: u8 :: u9 :: u10 :: u11 :: u12 :: u13 :: u14 :: u15 :: u16 :: u17 :: u18 :: u19 :: u20 :: u21 :: u22 :: u23 :: u24 :: u25 :: u26 :: u27 :: u28 :: u29 :: u30 :: u31 :: u32 :: u33 :: u34 :: u35 :: u36 :: u37 :: u38 :: u39 :: u40 :: u41 :: u42 :: u43 :: u44 :: u45 :: u46 :: u47 :: u48 :: u49 :: u50 :: u51 :: u52 :: u53 :: u54 :: u55 :: u56 :: u57 :: u58 :: u59 :: u60 :: u61 :: u62 :: u63 :: u64 :: u65 :: u66 :: u67 :: u68 :: u69 :: u70 :: u71 :: u72 :: u73 :: u74 :: u75 :: u76 :: u77 :: u78 :: u79 :: u80 :: u81 :: u82 :: u83 :: u84 :: u85 :: u86 :: u87 :: u88 :: u89 :: u90 :: u91 :: u92 :: u93 :: u94 :: u95 :: u96 :: u97 :: u98 :: u99 :: u100 :: u101 :: u102 :: u103 :: u104 :: u105 :: u106 :: u107 :: u108 :: u109 :: u110 :: u111 :: u112 :: u113 :: u114 :: u115 :: u116 :: u117 :: u118 :: u119 :: u120 :: u121 :: u122 :: u123 :: u124 :: u125 :: u126 :: u127 :: u128 :: u129 :: u130 :: u131 :: u132 :: u133 :: u134 :: u135 :: u136 :: u137 :: u138 :: u139 :: u140 :: u141 :: u142 :: u143 :: u144 :: u145 :: u146 :: u147 :: u148 :: u149 :: u150 :: u151 :: u152 :: u153 :: u154 :: u155 :: u156 :: u157 :: u158 :: u159 :: u160 :: u161 :: u162 :: u163 :: u164 :: u165 :: u166 :: u167 :: u168 :: u169 :: u170 :: u171 :: u172 :: u173 :: u174 :: u175 :: u176 :: u177 :: u178 :: u179 :: u180 :: u181 :: u182 :: u183 :: u184 :: u185 :: u186 :: u187 :: u188 :: u189 :: u190 :: u191 :: u192 :: u193 :: u194 :: u195 :: u196 :: u197 :: u198 :: u199 :: u200 :: u201 :: u202 :: u203 :: u204 :: u205 :: u206 :: u207 :: u208 :: u209 :: u210 :: u211 :: u212 :: u213 :: u214 :: u215 :: u216 :: u217 :: u218 :: u219 :: u220 :: u221 :: u222 :: u223 :: u224 :: u225 :: u226 :: u227 :: u228 :: u229 :: u230 :: u231 :: u232 :: u233 :: u234 :: u235 :: u236 :: u237 :: u238 :: u239 :: u240 :: u241 :: u242 :: u243 :: u244 :: u245 :: u246 :: u247 :: u248 :: u249 :: u250 :: u251 :: u252 :: u253 :: u254 :: u255 :: u256 :: u257 :: u258 :: u259 :: u260 :: u261 :: u262 :: u263 :: u264 :: u265 :: u266 :: u267 :: u268 :: u269 :: u270 :: u271 :: u272 :: u273 :: u274 :: u275 :: u276 :: u277 :: u278 :: u279 :: u280 :: u281 :: u282 :: u283 :: u284 :: u285 :: u286 :: u287 :: u288 :: u289 :: u290 :: u291 :: u292 :: u293 :: u294 :: u295 :: u296 :: u297 :: u298 :: u299 :: u300 :: u301 :: u302 :: u303 :: u304 :: u305 :: u306 :: u307 :: u308 :: u309 :: u310 :: u311 :: u312 :: u313 :: u314 :: u315 :: u316 :: u317 :: u318 :: u319 :: u320 :: u321 :: u322 :: u323 :: u324 :: u325 :: u326 :: u327 :: u328 :: u329 :: u330 :: u331 :: u332 :: u333 :: u334 :: u335 :: u336 :: []), []⟩ w := by
  conv => arg 2; whnf
  have cC := hC.cell
  have cN := hN.cell
  have lC := hC.lt
  obtain ⟨q, hq, hq2⟩ : ∃ q : Nat, (kd : Int).tmod 2 = (q : Int) ∧ q < 2 := ⟨kd % 2, by rw [Int.tmod_eq_emod_of_nonneg (by omega)]; simp, by omega⟩
  have hq3 : IntKind.u8.wrap (q : Int) = q := IntWalk.u8_in _ (by omega)
  have hw1 : IntKind.u64.wrap (m0 : Int) = m0 := IntWalk.u64_in _ (by omega)
  obtain ⟨tu, htu⟩ : ∃ c : Nat, c = 1 + m0 := ⟨_, rfl⟩
  have hw2 : IntKind.u64.wrap (1 + (m0 : Int)) = (tu : Int) := by rw [htu, IntWalk.u64_in _ (by omega)]; omega
  have htu1 : 1 ≤ tu := by omega
  have htu2 : tu < 18446744073709551616 := by omega
  clear htu
  obtain ⟨c1, hc1, hc1'⟩ : ∃ c : Nat, (m1 : Int).tmod 1024 = (c : Int) ∧ c < 1024 := ⟨m1 % 1024, by rw [Int.tmod_eq_emod_of_nonneg (by omega)]; simp, by omega⟩
  have hd1 : IntKind.u32.wrap (c1 : Int) = c1 := IntWalk.u32_in _ (by omega)
  obtain ⟨s1, hs1⟩ : ∃ c : Nat, c = 1 + c1 := ⟨_, rfl⟩
  have he1 : IntKind.u32.wrap (1 + (c1 : Int)) = (s1 : Int) := by rw [hs1, IntWalk.u32_in _ (by omega)]; omega
  have hf1 : 1 ≤ s1 := by omega
  have hg1 : s1 ≤ 1024 := by omega
  clear hs1 hc1'
  obtain ⟨c2, hc2, hc2'⟩ : ∃ c : Nat, (m2 : Int).tmod 1024 = (c : Int) ∧ c < 1024 := ⟨m2 % 1024, by rw [Int.tmod_eq_emod_of_nonneg (by omega)]; simp, by omega⟩
  have hd2 : IntKind.u32.wrap (c2 : Int) = c2 := IntWalk.u32_in _ (by omega)
  obtain ⟨s2, hs2⟩ : ∃ c : Nat, c = 1 + c2 := ⟨_, rfl⟩
  have he2 : IntKind.u32.wrap (1 + (c2 : Int)) = (s2 : Int) := by rw [hs2, IntWalk.u32_in _ (by omega)]; omega
  have hf2 : 1 ≤ s2 := by omega
  have hg2 : s2 ≤ 1024 := by omega
  clear hs2 hc2'
  obtain ⟨c3, hc3, hc3'⟩ : ∃ c : Nat, (m3 : Int).tmod 1024 = (c : Int) ∧ c < 1024 := ⟨m3 % 1024, by rw [Int.tmod_eq_emod_of_nonneg (by omega)]; simp, by omega⟩
  have hd3 : IntKind.u32.wrap (c3 : Int) = c3 := IntWalk.u32_in _ (by omega)
  obtain ⟨s3, hs3⟩ : ∃ c : Nat, c = 1 + c3 := ⟨_, rfl⟩
  have he3 : IntKind.u32.wrap (1 + (c3 : Int)) = (s3 : Int) := by rw [hs3, IntWalk.u32_in _ (by omega)]; omega
  have hf3 : 1 ≤ s3 := by omega
  have hg3 : s3 ≤ 1024 := by omega
  clear hs3 hc3'
  have hw3 : IntKind.u64.wrap (tx : Int) = tx := IntWalk.u64_in _ (by omega)
  obtain ⟨nu, hnu⟩ : ∃ c : Nat, c = 1 + tx := ⟨_, rfl⟩
  have hw4 : IntKind.u64.wrap (1 + (tx : Int)) = (nu : Int) := by rw [hnu, IntWalk.u64_in _ (by omega)]; omega
  have hnu1 : 1 ≤ nu := by omega
  have hnu2 : nu < 18446744073709551616 := by omega
  clear hnu
  rcases (show q = 0 ∨ q = 1 by omega) with rfl | rfl
  · obtain ⟨B, hBl, HE, HS, HD⟩ : ∃ B : List UInt8, B.length = 31 ∧
      (∀ W : World, Calls Try.prog 17 #[.agg #[.int .u64 tu, .int .u8 1, .int .u64 0, .int .u32 s1, .int .u32 s2, .int .u32 s3, .int .u16 sl]] W fun e w' => e = .returned (.tuple #[.string ⟨B.toArray⟩, .int .i64 0]) ∧ Below W.heap.size W w') ∧
      (∀ W : World, Calls Try.prog 19 #[.agg #[.int .u64 tu, .int .u8 1, .int .u64 0, .int .u32 s1, .int .u32 s2, .int .u32 s3, .int .u16 sl]] W fun e w' => e = .returned (.string ⟨B.toArray⟩) ∧ Below W.heap.size W w') ∧
      (∀ W : World, Calls Try.prog 18 #[.string ⟨B.toArray⟩] W fun e w' => e = .returned (.tuple #[.agg #[.int .u64 tu, .int .u8 1, .int .u64 0, .int .u32 s1, .int .u32 s2, .int .u32 s3, .int .u16 sl], .int .i64 0]) ∧ Below W.heap.size W w') :=
      seg_all tu 1 0 s1 s2 s3 sl (by omega) (by omega) (by omega) hg1 hg2 hg3 hsl (fun W => seg_may1 tu s1 s2 s3 sl W hf1 hg1 hf2 hg2 hf3 hg3 hsl htu1)
    have HO : ∀ W : World, Calls Try.prog 17 #[.agg #[.int .u64 tu, .int .u8 1, .int .u64 1, .int .u32 s1, .int .u32 s2, .int .u32 s3, .int .u16 sl]] W fun e w' => e = .returned (.tuple #[.string ⟨#[]⟩, .int .i64 2]) ∧ Below W.heap.size W w' :=
      fun W => seg_encode_no tu 1 1 s1 s2 s3 sl W (fun W => seg_no1 tu s1 s2 s3 sl W hf1 hg1 hf2 hg2 hf3 hg3 hsl htu1)
    replace HE := Lib.hid HE
    replace HS := Lib.hid HS
    replace HD := Lib.hid HD
    replace HO := Lib.hid HO
    have : Short B 1000 := ⟨by omega⟩
    have hBi : (B.length : Int) = 31 := by omega
    go_wp2_with fail
    have hS0 := Blk.new w 56 #[.int .u64 tu, .int .u8 1, .int .u64 0, .int .u32 s1, .int .u32 s2, .int .u32 s3, .int .u16 sl]
    have hNP := hN.lt
    have hPw := hx.size
    have hN0 := hN.alloc (.cells #[.int .u64 tu, .int .u8 1, .int .u64 0, .int .u32 s1, .int .u32 s2, .int .u32 s3, .int .u16 sl] 56)
    have hx0 := ba hx (.cells #[.int .u64 tu, .int .u8 1, .int .u64 0, .int .u32 s1, .int .u32 s2, .int .u32 s3, .int .u16 sl] 56)
    clear hC hN hx cC cN lC
    generalize w.alloc (.cells #[.int .u64 tu, .int .u8 1, .int .u64 0, .int .u32 s1, .int .u32 s2, .int .u32 s3, .int .u16 sl] 56) = v0 at *
    generalize w.heap.size = P at *
    refine (HE.out _).mono ?_
    rintro e v1 ⟨rfl, hb1⟩
    have hS1 := hS0.after hb1
    have hN1 := hN0.after hb1
    have hx1 := bt hx0 hb1
    clear hS0 hN0 hx0 hb1
    have cS1 := hS1.cell
    go_wp2_with fail
    refine (HS.out _).mono ?_
    rintro e v2 ⟨rfl, hb2⟩
    have hS2 := hS1.after hb2
    have hN2 := hN1.after hb2
    have hx2 := bt hx1 hb2
    clear hS1 hN1 hx1 hb2 cS1
    go_wp2_with fail
    refine (HD.out _).mono ?_
    rintro e v3 ⟨rfl, hb3⟩
    have hS3 := hS2.after hb3
    have hN3 := hN2.after hb3
    have hx3 := bt hx2 hb3
    clear hS2 hN2 hx2 hb3
    have cS3 := hS3.cell
    have lS3 := hS3.lt
    have fS3 := hS3.frozen
    go_wp2_with fail
    have eM : (1 : Int) - min 0 1 = 1 := by omega
    rw [eM]
    have hS4 := (hS3.set_ 2 (.int .u64 1)).alloc (.cells #[.int .u64 tu, .int .u8 1, .int .u64 0, .int .u32 s1, .int .u32 s2, .int .u32 s3, .int .u16 sl] 56)
    simp only [List.setIfInBounds_toArray, List.set_cons_succ, List.set_cons_zero] at hS4
    have hN4 := (hN3.far (p := ⟨P, 2, none⟩) (by show N ≠ P; omega) (.int .u64 1)).alloc (.cells #[.int .u64 tu, .int .u8 1, .int .u64 0, .int .u32 s1, .int .u32 s2, .int .u32 s3, .int .u16 sl] 56)
    have hx4 := ba (bs hx3 (p := ⟨P, 2, none⟩) (by show w0.heap.size ≤ P; omega) (.int .u64 1)) (.cells #[.int .u64 tu, .int .u8 1, .int .u64 0, .int .u32 s1, .int .u32 s2, .int .u32 s3, .int .u16 sl] 56)
    have hD4 : Blk ((v3.setCell ⟨P, 2, none⟩ (.int .u64 1)).alloc (.cells #[.int .u64 tu, .int .u8 1, .int .u64 0, .int .u32 s1, .int .u32 s2, .int .u32 s3, .int .u16 sl] 56)) v3.heap.size 56 #[.int .u64 tu, .int .u8 1, .int .u64 0, .int .u32 s1, .int .u32 s2, .int .u32 s3, .int .u16 sl] := by
      have h := Blk.new (v3.setCell ⟨P, 2, none⟩ (.int .u64 1)) 56 #[.int .u64 tu, .int .u8 1, .int .u64 0, .int .u32 s1, .int .u32 s2, .int .u32 s3, .int .u16 sl]
      simpa [World.setCell] using h
    clear hS3 hN3 hx3 cS3 lS3 fS3
    generalize (v3.setCell ⟨P, 2, none⟩ (.int .u64 1)).alloc (.cells #[.int .u64 tu, .int .u8 1, .int .u64 0, .int .u32 s1, .int .u32 s2, .int .u32 s3, .int .u16 sl] 56) = v4 at *
    generalize v3.heap.size = D at *
    refine (HO.out _).mono ?_
    rintro e v5 ⟨rfl, hb5⟩
    have hN5 := hN4.after hb5
    have hD5 := hD4.after hb5
    have hx5 := bt hx4 hb5
    clear hN4 hD4 hS4 hx4 hb5
    have cN5 := hN5.cell
    have cD5 := hD5.cell
    go_wp2_with fail
    refine (HS.out _).mono ?_
    rintro e v6 ⟨rfl, hb6⟩
    have hx6 := bt hx5 hb6
    go_wp2_with fail
    go_ret
    exact ⟨rfl, hx6⟩
  · obtain ⟨B, hBl, HE, HS, HD⟩ : ∃ B : List UInt8, B.length = 31 ∧
      (∀ W : World, Calls Try.prog 17 #[.agg #[.int .u64 tu, .int .u8 2, .int .u64 nu, .int .u32 s1, .int .u32 s2, .int .u32 s3, .int .u16 sl]] W fun e w' => e = .returned (.tuple #[.string ⟨B.toArray⟩, .int .i64 0]) ∧ Below W.heap.size W w') ∧
      (∀ W : World, Calls Try.prog 19 #[.agg #[.int .u64 tu, .int .u8 2, .int .u64 nu, .int .u32 s1, .int .u32 s2, .int .u32 s3, .int .u16 sl]] W fun e w' => e = .returned (.string ⟨B.toArray⟩) ∧ Below W.heap.size W w') ∧
      (∀ W : World, Calls Try.prog 18 #[.string ⟨B.toArray⟩] W fun e w' => e = .returned (.tuple #[.agg #[.int .u64 tu, .int .u8 2, .int .u64 nu, .int .u32 s1, .int .u32 s2, .int .u32 s3, .int .u16 sl], .int .i64 0]) ∧ Below W.heap.size W w') :=
      seg_all tu 2 nu s1 s2 s3 sl (by omega) (by omega) (by omega) hg1 hg2 hg3 hsl (fun W => seg_may2 tu s1 s2 s3 sl W hf1 hg1 hf2 hg2 hf3 hg3 hsl htu1 nu hnu1)
    have HO : ∀ W : World, Calls Try.prog 17 #[.agg #[.int .u64 tu, .int .u8 2, .int .u64 0, .int .u32 s1, .int .u32 s2, .int .u32 s3, .int .u16 sl]] W fun e w' => e = .returned (.tuple #[.string ⟨#[]⟩, .int .i64 2]) ∧ Below W.heap.size W w' :=
      fun W => seg_encode_no tu 2 0 s1 s2 s3 sl W (fun W => seg_no2 tu s1 s2 s3 sl W hf1 hg1 hf2 hg2 hf3 hg3 hsl htu1)
    replace HE := Lib.hid HE
    replace HS := Lib.hid HS
    replace HD := Lib.hid HD
    replace HO := Lib.hid HO
    have : Short B 1000 := ⟨by omega⟩
    have hBi : (B.length : Int) = 31 := by omega
    go_wp2_with fail
    have hS0 := Blk.new w 56 #[.int .u64 tu, .int .u8 2, .int .u64 nu, .int .u32 s1, .int .u32 s2, .int .u32 s3, .int .u16 sl]
    have hNP := hN.lt
    have hPw := hx.size
    have hN0 := hN.alloc (.cells #[.int .u64 tu, .int .u8 2, .int .u64 nu, .int .u32 s1, .int .u32 s2, .int .u32 s3, .int .u16 sl] 56)
    have hx0 := ba hx (.cells #[.int .u64 tu, .int .u8 2, .int .u64 nu, .int .u32 s1, .int .u32 s2, .int .u32 s3, .int .u16 sl] 56)
    clear hC hN hx cC cN lC
    generalize w.alloc (.cells #[.int .u64 tu, .int .u8 2, .int .u64 nu, .int .u32 s1, .int .u32 s2, .int .u32 s3, .int .u16 sl] 56) = v0 at *
    generalize w.heap.size = P at *
    refine (HE.out _).mono ?_
    rintro e v1 ⟨rfl, hb1⟩
    have hS1 := hS0.after hb1
    have hN1 := hN0.after hb1
    have hx1 := bt hx0 hb1
    clear hS0 hN0 hx0 hb1
    have cS1 := hS1.cell
    go_wp2_with fail
    refine (HS.out _).mono ?_
    rintro e v2 ⟨rfl, hb2⟩
    have hS2 := hS1.after hb2
    have hN2 := hN1.after hb2
    have hx2 := bt hx1 hb2
    clear hS1 hN1 hx1 hb2 cS1
    go_wp2_with fail
    refine (HD.out _).mono ?_
    rintro e v3 ⟨rfl, hb3⟩
    have hS3 := hS2.after hb3
    have hN3 := hN2.after hb3
    have hx3 := bt hx2 hb3
    clear hS2 hN2 hx2 hb3
    have cS3 := hS3.cell
    have lS3 := hS3.lt
    have fS3 := hS3.frozen
    go_wp2_with fail
    have eM : (1 : Int) - min (nu : Int) 1 = 0 := by omega
    rw [eM]
    have hS4 := (hS3.set_ 2 (.int .u64 0)).alloc (.cells #[.int .u64 tu, .int .u8 2, .int .u64 nu, .int .u32 s1, .int .u32 s2, .int .u32 s3, .int .u16 sl] 56)
    simp only [List.setIfInBounds_toArray, List.set_cons_succ, List.set_cons_zero] at hS4
    have hN4 := (hN3.far (p := ⟨P, 2, none⟩) (by show N ≠ P; omega) (.int .u64 0)).alloc (.cells #[.int .u64 tu, .int .u8 2, .int .u64 nu, .int .u32 s1, .int .u32 s2, .int .u32 s3, .int .u16 sl] 56)
    have hx4 := ba (bs hx3 (p := ⟨P, 2, none⟩) (by show w0.heap.size ≤ P; omega) (.int .u64 0)) (.cells #[.int .u64 tu, .int .u8 2, .int .u64 nu, .int .u32 s1, .int .u32 s2, .int .u32 s3, .int .u16 sl] 56)
    have hD4 : Blk ((v3.setCell ⟨P, 2, none⟩ (.int .u64 0)).alloc (.cells #[.int .u64 tu, .int .u8 2, .int .u64 nu, .int .u32 s1, .int .u32 s2, .int .u32 s3, .int .u16 sl] 56)) v3.heap.size 56 #[.int .u64 tu, .int .u8 2, .int .u64 nu, .int .u32 s1, .int .u32 s2, .int .u32 s3, .int .u16 sl] := by
      have h := Blk.new (v3.setCell ⟨P, 2, none⟩ (.int .u64 0)) 56 #[.int .u64 tu, .int .u8 2, .int .u64 nu, .int .u32 s1, .int .u32 s2, .int .u32 s3, .int .u16 sl]
      simpa [World.setCell] using h
    clear hS3 hN3 hx3 cS3 lS3 fS3
    generalize (v3.setCell ⟨P, 2, none⟩ (.int .u64 0)).alloc (.cells #[.int .u64 tu, .int .u8 2, .int .u64 nu, .int .u32 s1, .int .u32 s2, .int .u32 s3, .int .u16 sl] 56) = v4 at *
    generalize v3.heap.size = D at *
    refine (HO.out _).mono ?_
    rintro e v5 ⟨rfl, hb5⟩
    have hN5 := hN4.after hb5
    have hD5 := hD4.after hb5
    have hx5 := bt hx4 hb5
    clear hN4 hD4 hS4 hx4 hb5
    have cN5 := hN5.cell
    have cD5 := hD5.cell
    go_wp2_with fail
    refine (HS.out _).mono ?_
    rintro e v6 ⟨rfl, hb6⟩
    have hx6 := bt hx5 hb6
    go_wp2_with fail
    go_ret
    exact ⟨rfl, hx6⟩
end Go.Proofs.Ytaddjpngjhkkmaa
