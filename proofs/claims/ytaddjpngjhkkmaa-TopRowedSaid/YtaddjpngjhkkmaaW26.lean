/- The loop over the bad rows: what the code answers, as lemmas for every input that their premises allow; a part of the proof of TopRowed. -/
import Derived.Test.YtaddjpngjhkkmaaLt
import Derived.Test.YtaddjpngjhkkmaaW19
import Derived.Test.YtaddjpngjhkkmaaW25
import Derived.Deep.CutBlock
namespace Go.Proofs.Ytaddjpngjhkkmaa
open Go.RowKit
attribute [local go_sem ↓] Go.wp_at_zero Go.wp_at_succ
attribute [local go_sem ↓] add_short
set_option maxRecDepth 1000000 in
set_option maxHeartbeats 40000000 in
theorem law_L {u0 u2 u4 u8 u9 u10 u11 u12 u13 u14 u15 u16 u17 u18 u19 u20 u21 u22 u23 u24 u25 u26 u27 u28 u29 u30 u31 u32 u33 u34 u35 u36 u37 u38 u39 u40 u41 u42 u43 u44 u45 u46 u47 u48 u49 u50 u51 u52 u53 u54 u55 u56 u57 u58 u59 u60 u61 u62 u63 u64 u65 u66 u67 u68 u69 u70 u71 u72 u73 u74 u75 u76 u77 u78 u79 u80 u81 u82 u83 u84 u85 u86 u87 u88 u89 u90 u91 u92 u93 u94 u95 u96 u97 u98 u99 u100 u101 u102 u103 u104 u105 u106 u107 u108 u109 u110 u111 u112 u113 u114 u115 u116 u117 u118 u119 u120 u121 u122 u123 u124 u125 u126 u127 u128 u129 u130 u131 u132 u136 u137 u138 u139 u140 u141 u142 u143 u144 u145 u146 u147 u148 u149 u150 u151 u152 u153 u154 u155 u156 u157 u158 u159 u160 u161 u162 u163 u164 u165 u166 u167 u168 u169 u170 u171 u172 u173 u174 u175 u176 u177 u178 u179 u180 u181 u182 u183 u184 u185 u186 u187 u188 u189 u190 u191 u192 u193 u194 u195 u196 u197 u198 u199 u200 u201 u202 u203 u204 u205 u206 u207 u208 u209 u210 u211 u212 u213 u214 u215 u216 u217 u218 u219 u220 u221 u222 u223 u224 u225 u226 u227 u228 u229 u230 u231 u232 u233 u234 u235 u236 u237 u238 u239 u240 u241 u242 u243 u244 u245 u246 u247 u248 u249 u250 u251 u252 u253 u254 u255 u256 u257 u258 u259 u260 u261 u262 u263 u264 u265 u266 u267 u268 u269 u270 u271 u272 u273 u274 u275 u276 u277 u278 u279 u280 u281 u282 u283 u284 u285 u286 u287 u288 u289 u290 u291 u292 u293 u294 u295 u296 u297 u298 u299 u300 u301 u302 u303 u304 u305 u306 u307 u308 u309 u310 u311 u312 u313 u314 u315 u316 u317 u318 u319 u320 u321 u322 u323 u324 u325 u326 u327 u328 u329 u330 u331 u332 u333 u334 u335 u336 : Value} (ky lo va pd tx pg sl kd m0 m1 m2 m3 : Nat) (mk : Bool) (k v K V : List UInt8) (rp rs pad X N R SB : Nat) (w0 v0 : World) (htx : tx < 65536) (hsl : sl < 65536) (hkd : kd < 256) (hm0 : m0 < 4294967296) (hm1 : m1 < 4294967296) (hm2 : m2 < 4294967296) (hm3 : m3 < 4294967296)
    (hk1 : 1 ≤ k.length) (hk : k.length ≤ 48) (hv : v.length ≤ 96) (hrp : rp ≤ 1024) (hrs : rs < 65536) (hpad : pad ≤ 96) (hmay : Pm.may k v rp rs pad = true) (hKl : K.length = 49) (hVl : V.length = 97)
    (hS0 : Blk v0 SB 31 (List.toArray (Value.string ⟨#[]⟩ :: Value.bool false :: Value.int .u64 0 :: Value.int .u32 0 :: Value.int .u16 0 :: Value.string ⟨#[120]⟩ :: Value.int .i64 0 :: Value.string ⟨K.toArray⟩ :: Value.bool false :: Value.int .u64 0 :: Value.int .u32 0 :: Value.int .u16 0 :: Value.string ⟨#[]⟩ :: Value.int .i64 0 :: Value.string ⟨#[107]⟩ :: Value.bool false :: Value.int .u64 0 :: Value.int .u32 0 :: Value.int .u16 0 :: Value.string ⟨V.toArray⟩ :: Value.int .i64 0 :: Value.string ⟨#[107]⟩ :: Value.bool false :: Value.int .u64 0 :: Value.int .u32 0 :: Value.int .u16 0 :: Value.string ⟨v.toArray⟩ :: Value.int .i64 (97 - (v.length : Int)) :: Value.string ⟨#[107]⟩ :: Value.bool false :: Value.int .u64 0 :: Value.int .u32 0 :: Value.int .u16 1 :: Value.string ⟨#[]⟩ :: Value.int .i64 0 :: Value.string ⟨#[107]⟩ :: Value.bool false :: Value.int .u64 0 :: Value.int .u32 1025 :: Value.int .u16 0 :: Value.string ⟨#[]⟩ :: Value.int .i64 0 :: Value.string ⟨#[107]⟩ :: Value.bool false :: Value.int .u64 0 :: Value.int .u32 0 :: Value.int .u16 0 :: Value.string ⟨#[]⟩ :: Value.int .i64 (-1) :: [])))
    (hC0 : Blk v0 X 24 #[.int .u8 ky, .int .u8 lo, .int .u8 va, .int .u8 pd, .bool mk, .int .u16 tx, .int .u16 pg, .int .u16 sl]) (hN0 : Blk v0 N 26 #[.int .u32 m0, .int .u32 m1, .int .u32 m2, .int .u32 m3]) (hR0 : Blk v0 R 31 #[.string ⟨k.toArray⟩, .bool mk, .int .u64 tx, .int .u32 rp, .int .u16 rs, .string ⟨v.toArray⟩, .int .i64 pad]) (hx0 : Below w0.heap.size w0 v0) (hXN : X < N) (hNR : N < R)
    (Kc : Act → World → Prop) (hKc : ∀ a w, Code.wp Try.prog (lawTail 9) (bodyPost Try.prog Try.f3 fun e w' => e = .returned (.bool true) ∧ Below w0.heap.size w0 w') a w → Kc a w) :
    Code.wp Try.prog (codeDrop 1 (codeFst (lawTail 8))) (Exit.then Kc (bodyPost Try.prog Try.f3 fun e w' => e = .returned (.bool true) ∧ Below w0.heap.size w0 w')) ⟨List.toArray (u0 :: Value.int .u8 kd :: u2 :: Value.pointer (some ⟨X, 0, none⟩) :: u4 :: Value.pointer (some ⟨N, 0, none⟩) :: Value.bool false :: Value.pointer (some ⟨R, 0, none⟩) :: u8 :: u9 :: u10 :: u11 :: u12 :: u13 :: u14 :: u15 :: u16 :: u17 :: u18 :: u19 :: u20 :: u21 :: u22 :: u23 :: u24 :: u25 :: u26 :: u27 :: u28 :: u29 :: u30 :: u31 :: u32 :: u33 :: u34 :: u35 :: u36 :: u37 :: u38 :: u39 :: u40 :: u41 :: u42 :: u43 :: u44 :: u45 :: u46 :: u47 :: u48 :: u49 :: u50 :: u51 :: u52 :: u53 :: u54 :: u55 :: u56 :: u57 :: u58 :: u59 :: u60 :: u61 :: u62 :: u63 :: u64 :: u65 :: u66 :: u67 :: u68 :: u69 :: u70 :: u71 :: u72 :: u73 :: u74 :: u75 :: u76 :: u77 :: u78 :: u79 :: u80 :: u81 :: u82 :: u83 :: u84 :: u85 :: u86 :: u87 :: u88 :: u89 :: u90 :: u91 :: u92 :: u93 :: u94 :: u95 :: u96 :: u97 :: u98 :: u99 :: u100 :: u101 :: u102 :: u103 :: u104 :: u105 :: u106 :: u107 :: u108 :: u109 :: u110 :: u111 :: u112 :: u113 :: u114 :: u115 :: u116 :: u117 :: u118 :: u119 :: u120 :: u121 :: u122 :: u123 :: u124 :: u125 :: u126 :: u127 :: u128 :: u129 :: u130 :: u131 :: u132 :: Value.slice (some ⟨SB, 0, none⟩) 7 7 :: Value.int .i64 7 :: Value.int .i64 0 :: u136 :: u137 :: u138 :: u139 :: u140 :: u141 :: u142 :: u143 :: u144 :: u145 :: u146 :: u147 :: u148 :: u149 :: u150 :: u151 :: u152 :: u153 :: u154 :: u155 :: u156 :: u157 :: u158 :: u159 :: u160 :: u161 :: u162 :: u163 :: u164 :: u165 :: u166 :: u167 :: u168 :: u169 :: u170 :: u171 :: u172 :: u173 :: u174 :: u175 :: u176 :: u177 :: u178 :: u179 :: u180 :: u181 :: u182 :: u183 :: u184 :: u185 :: u186 :: u187 :: u188 :: u189 :: u190 :: u191 :: u192 :: u193 :: u194 :: u195 :: u196 :: u197 :: u198 :: u199 :: u200 :: u201 :: u202 :: u203 :: u204 :: u205 :: u206 :: u207 :: u208 :: u209 :: u210 :: u211 :: u212 :: u213 :: u214 :: u215 :: u216 :: u217 :: u218 :: u219 :: u220 :: u221 :: u222 :: u223 :: u224 :: u225 :: u226 :: u227 :: u228 :: u229 :: u230 :: u231 :: u232 :: u233 :: u234 :: u235 :: u236 :: u237 :: u238 :: u239 :: u240 :: u241 :: u242 :: u243 :: u244 :: u245 :: u246 :: u247 :: u248 :: u249 :: u250 :: u251 :: u252 :: u253 :: u254 :: u255 :: u256 :: u257 :: u258 :: u259 :: u260 :: u261 :: u262 :: u263 :: u264 :: u265 :: u266 :: u267 :: u268 :: u269 :: u270 :: u271 :: u272 :: u273 :: u274 :: u275 :: u276 :: u277 :: u278 :: u279 :: u280 :: u281 :: u282 :: u283 :: u284 :: u285 :: u286 :: u287 :: u288 :: u289 :: u290 :: u291 :: u292 :: u293 :: u294 :: u295 :: u296 :: u297 :: u298 :: u299 :: u300 :: u301 :: u302 :: u303 :: u304 :: u305 :: u306 :: u307 :: u308 :: u309 :: u310 :: u311 :: u312 :: u313 :: u314 :: u315 :: u316 :: u317 :: u318 :: u319 :: u320 :: u321 :: u322 :: u323 :: u324 :: u325 :: u326 :: u327 :: u328 :: u329 :: u330 :: u331 :: u332 :: u333 :: u334 :: u335 :: u336 :: []), []⟩ v0 := by
  conv => arg 2; whnf
  have HMay := Lib.hid hmay
  clear hmay
  replace hKc := Lib.hid hKc
  obtain ⟨hB0, hB1, hB2, hB3, hB4, hB5, hB6⟩ := bad_rows K V v hKl hVl hv
  go_wp2_with fail
  refine wp_loop_rounds 8 ?_
  have cS0 := hS0.cell
  have lS0 := hS0.lt
  rw [rounds_succ]
  go_wp2_with fail
  have hT0 := (Blk.new v0 31 #[.string ⟨#[]⟩, .bool false, .int .u64 0, .int .u32 0, .int .u16 0, .string ⟨#[120]⟩, .int .i64 0])
  have hS0a := hS0.alloc (.cells #[.string ⟨#[]⟩, .bool false, .int .u64 0, .int .u32 0, .int .u16 0, .string ⟨#[120]⟩, .int .i64 0] 31)
  have hC0a := hC0.alloc (.cells #[.string ⟨#[]⟩, .bool false, .int .u64 0, .int .u32 0, .int .u16 0, .string ⟨#[120]⟩, .int .i64 0] 31)
  have hN0a := hN0.alloc (.cells #[.string ⟨#[]⟩, .bool false, .int .u64 0, .int .u32 0, .int .u16 0, .string ⟨#[120]⟩, .int .i64 0] 31)
  have hR0a := hR0.alloc (.cells #[.string ⟨#[]⟩, .bool false, .int .u64 0, .int .u32 0, .int .u16 0, .string ⟨#[120]⟩, .int .i64 0] 31)
  have hx0a := ba hx0 (.cells #[.string ⟨#[]⟩, .bool false, .int .u64 0, .int .u32 0, .int .u16 0, .string ⟨#[120]⟩, .int .i64 0] 31)
  clear hS0 hC0 hN0 hR0 hx0 cS0 lS0
  generalize v0.alloc (.cells #[.string ⟨#[]⟩, .bool false, .int .u64 0, .int .u32 0, .int .u16 0, .string ⟨#[120]⟩, .int .i64 0] 31) = a0 at *
  generalize v0.heap.size = T0 at *
  refine (hB0.enc _).mono ?_
  rintro e b0 ⟨rfl, hb⟩
  have hT0b := hT0.after hb
  have hS0b := hS0a.after hb
  have hC0b := hC0a.after hb
  have hN0b := hN0a.after hb
  have hR0b := hR0a.after hb
  have hx0b := bt hx0a hb
  clear hT0 hS0a hC0a hN0a hR0a hx0a hb
  have cT0b := hT0b.cell
  go_wp2_with fail
  refine (hB0.may _).mono ?_
  rintro e c0 ⟨rfl, hb⟩
  have hT0c := hT0b.after hb
  have hS0c := hS0b.after hb
  have hC0c := hC0b.after hb
  have hN0c := hN0b.after hb
  have hR0c := hR0b.after hb
  have hx0c := bt hx0b hb
  clear hT0b hS0b hC0b hN0b hR0b hx0b hb cT0b
  have cT0c := hT0c.cell
  go_wp2_with fail
  refine (hB0.size _).mono ?_
  rintro e v1 ⟨rfl, hb⟩
  have hS1 := hS0c.after hb
  have hC1 := hC0c.after hb
  have hN1 := hN0c.after hb
  have hR1 := hR0c.after hb
  have hx1 := bt hx0c hb
  clear hT0c hS0c hC0c hN0c hR0c hx0c hb cT0c hB0
  go_wp2_with fail
  have cS1 := hS1.cell
  have lS1 := hS1.lt
  rw [rounds_succ]
  go_wp2_with fail
  have hT1 := (Blk.new v1 31 #[.string ⟨K.toArray⟩, .bool false, .int .u64 0, .int .u32 0, .int .u16 0, .string ⟨#[]⟩, .int .i64 0])
  have hS1a := hS1.alloc (.cells #[.string ⟨K.toArray⟩, .bool false, .int .u64 0, .int .u32 0, .int .u16 0, .string ⟨#[]⟩, .int .i64 0] 31)
  have hC1a := hC1.alloc (.cells #[.string ⟨K.toArray⟩, .bool false, .int .u64 0, .int .u32 0, .int .u16 0, .string ⟨#[]⟩, .int .i64 0] 31)
  have hN1a := hN1.alloc (.cells #[.string ⟨K.toArray⟩, .bool false, .int .u64 0, .int .u32 0, .int .u16 0, .string ⟨#[]⟩, .int .i64 0] 31)
  have hR1a := hR1.alloc (.cells #[.string ⟨K.toArray⟩, .bool false, .int .u64 0, .int .u32 0, .int .u16 0, .string ⟨#[]⟩, .int .i64 0] 31)
  have hx1a := ba hx1 (.cells #[.string ⟨K.toArray⟩, .bool false, .int .u64 0, .int .u32 0, .int .u16 0, .string ⟨#[]⟩, .int .i64 0] 31)
  clear hS1 hC1 hN1 hR1 hx1 cS1 lS1
  generalize v1.alloc (.cells #[.string ⟨K.toArray⟩, .bool false, .int .u64 0, .int .u32 0, .int .u16 0, .string ⟨#[]⟩, .int .i64 0] 31) = a1 at *
  generalize v1.heap.size = T1 at *
  refine (hB1.enc _).mono ?_
  rintro e b1 ⟨rfl, hb⟩
  have hT1b := hT1.after hb
  have hS1b := hS1a.after hb
  have hC1b := hC1a.after hb
  have hN1b := hN1a.after hb
  have hR1b := hR1a.after hb
  have hx1b := bt hx1a hb
  clear hT1 hS1a hC1a hN1a hR1a hx1a hb
  have cT1b := hT1b.cell
  go_wp2_with fail
  refine (hB1.may _).mono ?_
  rintro e c1 ⟨rfl, hb⟩
  have hT1c := hT1b.after hb
  have hS1c := hS1b.after hb
  have hC1c := hC1b.after hb
  have hN1c := hN1b.after hb
  have hR1c := hR1b.after hb
  have hx1c := bt hx1b hb
  clear hT1b hS1b hC1b hN1b hR1b hx1b hb cT1b
  have cT1c := hT1c.cell
  go_wp2_with fail
  refine (hB1.size _).mono ?_
  rintro e v2 ⟨rfl, hb⟩
  have hS2 := hS1c.after hb
  have hC2 := hC1c.after hb
  have hN2 := hN1c.after hb
  have hR2 := hR1c.after hb
  have hx2 := bt hx1c hb
  clear hT1c hS1c hC1c hN1c hR1c hx1c hb cT1c hB1
  go_wp2_with fail
  have cS2 := hS2.cell
  have lS2 := hS2.lt
  rw [rounds_succ]
  go_wp2_with fail
  have hT2 := (Blk.new v2 31 #[.string ⟨#[107]⟩, .bool false, .int .u64 0, .int .u32 0, .int .u16 0, .string ⟨V.toArray⟩, .int .i64 0])
  have hS2a := hS2.alloc (.cells #[.string ⟨#[107]⟩, .bool false, .int .u64 0, .int .u32 0, .int .u16 0, .string ⟨V.toArray⟩, .int .i64 0] 31)
  have hC2a := hC2.alloc (.cells #[.string ⟨#[107]⟩, .bool false, .int .u64 0, .int .u32 0, .int .u16 0, .string ⟨V.toArray⟩, .int .i64 0] 31)
  have hN2a := hN2.alloc (.cells #[.string ⟨#[107]⟩, .bool false, .int .u64 0, .int .u32 0, .int .u16 0, .string ⟨V.toArray⟩, .int .i64 0] 31)
  have hR2a := hR2.alloc (.cells #[.string ⟨#[107]⟩, .bool false, .int .u64 0, .int .u32 0, .int .u16 0, .string ⟨V.toArray⟩, .int .i64 0] 31)
  have hx2a := ba hx2 (.cells #[.string ⟨#[107]⟩, .bool false, .int .u64 0, .int .u32 0, .int .u16 0, .string ⟨V.toArray⟩, .int .i64 0] 31)
  clear hS2 hC2 hN2 hR2 hx2 cS2 lS2
  generalize v2.alloc (.cells #[.string ⟨#[107]⟩, .bool false, .int .u64 0, .int .u32 0, .int .u16 0, .string ⟨V.toArray⟩, .int .i64 0] 31) = a2 at *
  generalize v2.heap.size = T2 at *
  refine (hB2.enc _).mono ?_
  rintro e b2 ⟨rfl, hb⟩
  have hT2b := hT2.after hb
  have hS2b := hS2a.after hb
  have hC2b := hC2a.after hb
  have hN2b := hN2a.after hb
  have hR2b := hR2a.after hb
  have hx2b := bt hx2a hb
  clear hT2 hS2a hC2a hN2a hR2a hx2a hb
  have cT2b := hT2b.cell
  go_wp2_with fail
  refine (hB2.may _).mono ?_
  rintro e c2 ⟨rfl, hb⟩
  have hT2c := hT2b.after hb
  have hS2c := hS2b.after hb
  have hC2c := hC2b.after hb
  have hN2c := hN2b.after hb
  have hR2c := hR2b.after hb
  have hx2c := bt hx2b hb
  clear hT2b hS2b hC2b hN2b hR2b hx2b hb cT2b
  have cT2c := hT2c.cell
  go_wp2_with fail
  refine (hB2.size _).mono ?_
  rintro e v3 ⟨rfl, hb⟩
  have hS3 := hS2c.after hb
  have hC3 := hC2c.after hb
  have hN3 := hN2c.after hb
  have hR3 := hR2c.after hb
  have hx3 := bt hx2c hb
  clear hT2c hS2c hC2c hN2c hR2c hx2c hb cT2c hB2
  go_wp2_with fail
  have cS3 := hS3.cell
  have lS3 := hS3.lt
  rw [rounds_succ]
  go_wp2_with fail
  have hT3 := (Blk.new v3 31 #[.string ⟨#[107]⟩, .bool false, .int .u64 0, .int .u32 0, .int .u16 0, .string ⟨v.toArray⟩, .int .i64 (97 - (v.length : Int))])
  have hS3a := hS3.alloc (.cells #[.string ⟨#[107]⟩, .bool false, .int .u64 0, .int .u32 0, .int .u16 0, .string ⟨v.toArray⟩, .int .i64 (97 - (v.length : Int))] 31)
  have hC3a := hC3.alloc (.cells #[.string ⟨#[107]⟩, .bool false, .int .u64 0, .int .u32 0, .int .u16 0, .string ⟨v.toArray⟩, .int .i64 (97 - (v.length : Int))] 31)
  have hN3a := hN3.alloc (.cells #[.string ⟨#[107]⟩, .bool false, .int .u64 0, .int .u32 0, .int .u16 0, .string ⟨v.toArray⟩, .int .i64 (97 - (v.length : Int))] 31)
  have hR3a := hR3.alloc (.cells #[.string ⟨#[107]⟩, .bool false, .int .u64 0, .int .u32 0, .int .u16 0, .string ⟨v.toArray⟩, .int .i64 (97 - (v.length : Int))] 31)
  have hx3a := ba hx3 (.cells #[.string ⟨#[107]⟩, .bool false, .int .u64 0, .int .u32 0, .int .u16 0, .string ⟨v.toArray⟩, .int .i64 (97 - (v.length : Int))] 31)
  clear hS3 hC3 hN3 hR3 hx3 cS3 lS3
  generalize v3.alloc (.cells #[.string ⟨#[107]⟩, .bool false, .int .u64 0, .int .u32 0, .int .u16 0, .string ⟨v.toArray⟩, .int .i64 (97 - (v.length : Int))] 31) = a3 at *
  generalize v3.heap.size = T3 at *
  refine (hB3.enc _).mono ?_
  rintro e b3 ⟨rfl, hb⟩
  have hT3b := hT3.after hb
  have hS3b := hS3a.after hb
  have hC3b := hC3a.after hb
  have hN3b := hN3a.after hb
  have hR3b := hR3a.after hb
  have hx3b := bt hx3a hb
  clear hT3 hS3a hC3a hN3a hR3a hx3a hb
  have cT3b := hT3b.cell
  go_wp2_with fail
  refine (hB3.may _).mono ?_
  rintro e c3 ⟨rfl, hb⟩
  have hT3c := hT3b.after hb
  have hS3c := hS3b.after hb
  have hC3c := hC3b.after hb
  have hN3c := hN3b.after hb
  have hR3c := hR3b.after hb
  have hx3c := bt hx3b hb
  clear hT3b hS3b hC3b hN3b hR3b hx3b hb cT3b
  have cT3c := hT3c.cell
  go_wp2_with fail
  refine (hB3.size _).mono ?_
  rintro e v4 ⟨rfl, hb⟩
  have hS4 := hS3c.after hb
  have hC4 := hC3c.after hb
  have hN4 := hN3c.after hb
  have hR4 := hR3c.after hb
  have hx4 := bt hx3c hb
  clear hT3c hS3c hC3c hN3c hR3c hx3c hb cT3c hB3
  go_wp2_with fail
  have cS4 := hS4.cell
  have lS4 := hS4.lt
  rw [rounds_succ]
  go_wp2_with fail
  have hT4 := (Blk.new v4 31 #[.string ⟨#[107]⟩, .bool false, .int .u64 0, .int .u32 0, .int .u16 1, .string ⟨#[]⟩, .int .i64 0])
  have hS4a := hS4.alloc (.cells #[.string ⟨#[107]⟩, .bool false, .int .u64 0, .int .u32 0, .int .u16 1, .string ⟨#[]⟩, .int .i64 0] 31)
  have hC4a := hC4.alloc (.cells #[.string ⟨#[107]⟩, .bool false, .int .u64 0, .int .u32 0, .int .u16 1, .string ⟨#[]⟩, .int .i64 0] 31)
  have hN4a := hN4.alloc (.cells #[.string ⟨#[107]⟩, .bool false, .int .u64 0, .int .u32 0, .int .u16 1, .string ⟨#[]⟩, .int .i64 0] 31)
  have hR4a := hR4.alloc (.cells #[.string ⟨#[107]⟩, .bool false, .int .u64 0, .int .u32 0, .int .u16 1, .string ⟨#[]⟩, .int .i64 0] 31)
  have hx4a := ba hx4 (.cells #[.string ⟨#[107]⟩, .bool false, .int .u64 0, .int .u32 0, .int .u16 1, .string ⟨#[]⟩, .int .i64 0] 31)
  clear hS4 hC4 hN4 hR4 hx4 cS4 lS4
  generalize v4.alloc (.cells #[.string ⟨#[107]⟩, .bool false, .int .u64 0, .int .u32 0, .int .u16 1, .string ⟨#[]⟩, .int .i64 0] 31) = a4 at *
  generalize v4.heap.size = T4 at *
  refine (hB4.enc _).mono ?_
  rintro e b4 ⟨rfl, hb⟩
  have hT4b := hT4.after hb
  have hS4b := hS4a.after hb
  have hC4b := hC4a.after hb
  have hN4b := hN4a.after hb
  have hR4b := hR4a.after hb
  have hx4b := bt hx4a hb
  clear hT4 hS4a hC4a hN4a hR4a hx4a hb
  have cT4b := hT4b.cell
  go_wp2_with fail
  refine (hB4.may _).mono ?_
  rintro e c4 ⟨rfl, hb⟩
  have hT4c := hT4b.after hb
  have hS4c := hS4b.after hb
  have hC4c := hC4b.after hb
  have hN4c := hN4b.after hb
  have hR4c := hR4b.after hb
  have hx4c := bt hx4b hb
  clear hT4b hS4b hC4b hN4b hR4b hx4b hb cT4b
  have cT4c := hT4c.cell
  go_wp2_with fail
  refine (hB4.size _).mono ?_
  rintro e v5 ⟨rfl, hb⟩
  have hS5 := hS4c.after hb
  have hC5 := hC4c.after hb
  have hN5 := hN4c.after hb
  have hR5 := hR4c.after hb
  have hx5 := bt hx4c hb
  clear hT4c hS4c hC4c hN4c hR4c hx4c hb cT4c hB4
  go_wp2_with fail
  have cS5 := hS5.cell
  have lS5 := hS5.lt
  rw [rounds_succ]
  go_wp2_with fail
  have hT5 := (Blk.new v5 31 #[.string ⟨#[107]⟩, .bool false, .int .u64 0, .int .u32 1025, .int .u16 0, .string ⟨#[]⟩, .int .i64 0])
  have hS5a := hS5.alloc (.cells #[.string ⟨#[107]⟩, .bool false, .int .u64 0, .int .u32 1025, .int .u16 0, .string ⟨#[]⟩, .int .i64 0] 31)
  have hC5a := hC5.alloc (.cells #[.string ⟨#[107]⟩, .bool false, .int .u64 0, .int .u32 1025, .int .u16 0, .string ⟨#[]⟩, .int .i64 0] 31)
  have hN5a := hN5.alloc (.cells #[.string ⟨#[107]⟩, .bool false, .int .u64 0, .int .u32 1025, .int .u16 0, .string ⟨#[]⟩, .int .i64 0] 31)
  have hR5a := hR5.alloc (.cells #[.string ⟨#[107]⟩, .bool false, .int .u64 0, .int .u32 1025, .int .u16 0, .string ⟨#[]⟩, .int .i64 0] 31)
  have hx5a := ba hx5 (.cells #[.string ⟨#[107]⟩, .bool false, .int .u64 0, .int .u32 1025, .int .u16 0, .string ⟨#[]⟩, .int .i64 0] 31)
  clear hS5 hC5 hN5 hR5 hx5 cS5 lS5
  generalize v5.alloc (.cells #[.string ⟨#[107]⟩, .bool false, .int .u64 0, .int .u32 1025, .int .u16 0, .string ⟨#[]⟩, .int .i64 0] 31) = a5 at *
  generalize v5.heap.size = T5 at *
  refine (hB5.enc _).mono ?_
  rintro e b5 ⟨rfl, hb⟩
  have hT5b := hT5.after hb
  have hS5b := hS5a.after hb
  have hC5b := hC5a.after hb
  have hN5b := hN5a.after hb
  have hR5b := hR5a.after hb
  have hx5b := bt hx5a hb
  clear hT5 hS5a hC5a hN5a hR5a hx5a hb
  have cT5b := hT5b.cell
  go_wp2_with fail
  refine (hB5.may _).mono ?_
  rintro e c5 ⟨rfl, hb⟩
  have hT5c := hT5b.after hb
  have hS5c := hS5b.after hb
  have hC5c := hC5b.after hb
  have hN5c := hN5b.after hb
  have hR5c := hR5b.after hb
  have hx5c := bt hx5b hb
  clear hT5b hS5b hC5b hN5b hR5b hx5b hb cT5b
  have cT5c := hT5c.cell
  go_wp2_with fail
  refine (hB5.size _).mono ?_
  rintro e v6 ⟨rfl, hb⟩
  have hS6 := hS5c.after hb
  have hC6 := hC5c.after hb
  have hN6 := hN5c.after hb
  have hR6 := hR5c.after hb
  have hx6 := bt hx5c hb
  clear hT5c hS5c hC5c hN5c hR5c hx5c hb cT5c hB5
  go_wp2_with fail
  have cS6 := hS6.cell
  have lS6 := hS6.lt
  rw [rounds_succ]
  go_wp2_with fail
  have hT6 := (Blk.new v6 31 #[.string ⟨#[107]⟩, .bool false, .int .u64 0, .int .u32 0, .int .u16 0, .string ⟨#[]⟩, .int .i64 (-1)])
  have hS6a := hS6.alloc (.cells #[.string ⟨#[107]⟩, .bool false, .int .u64 0, .int .u32 0, .int .u16 0, .string ⟨#[]⟩, .int .i64 (-1)] 31)
  have hC6a := hC6.alloc (.cells #[.string ⟨#[107]⟩, .bool false, .int .u64 0, .int .u32 0, .int .u16 0, .string ⟨#[]⟩, .int .i64 (-1)] 31)
  have hN6a := hN6.alloc (.cells #[.string ⟨#[107]⟩, .bool false, .int .u64 0, .int .u32 0, .int .u16 0, .string ⟨#[]⟩, .int .i64 (-1)] 31)
  have hR6a := hR6.alloc (.cells #[.string ⟨#[107]⟩, .bool false, .int .u64 0, .int .u32 0, .int .u16 0, .string ⟨#[]⟩, .int .i64 (-1)] 31)
  have hx6a := ba hx6 (.cells #[.string ⟨#[107]⟩, .bool false, .int .u64 0, .int .u32 0, .int .u16 0, .string ⟨#[]⟩, .int .i64 (-1)] 31)
  clear hS6 hC6 hN6 hR6 hx6 cS6 lS6
  generalize v6.alloc (.cells #[.string ⟨#[107]⟩, .bool false, .int .u64 0, .int .u32 0, .int .u16 0, .string ⟨#[]⟩, .int .i64 (-1)] 31) = a6 at *
  generalize v6.heap.size = T6 at *
  refine (hB6.enc _).mono ?_
  rintro e b6 ⟨rfl, hb⟩
  have hT6b := hT6.after hb
  have hS6b := hS6a.after hb
  have hC6b := hC6a.after hb
  have hN6b := hN6a.after hb
  have hR6b := hR6a.after hb
  have hx6b := bt hx6a hb
  clear hT6 hS6a hC6a hN6a hR6a hx6a hb
  have cT6b := hT6b.cell
  go_wp2_with fail
  refine (hB6.may _).mono ?_
  rintro e c6 ⟨rfl, hb⟩
  have hT6c := hT6b.after hb
  have hS6c := hS6b.after hb
  have hC6c := hC6b.after hb
  have hN6c := hN6b.after hb
  have hR6c := hR6b.after hb
  have hx6c := bt hx6b hb
  clear hT6b hS6b hC6b hN6b hR6b hx6b hb cT6b
  have cT6c := hT6c.cell
  go_wp2_with fail
  refine (hB6.size _).mono ?_
  rintro e v7 ⟨rfl, hb⟩
  have hS7 := hS6c.after hb
  have hC7 := hC6c.after hb
  have hN7 := hN6c.after hb
  have hR7 := hR6c.after hb
  have hx7 := bt hx6c hb
  clear hT6c hS6c hC6c hN6c hR6c hx6c hb cT6c hB6
  go_wp2_with fail
  rw [rounds_succ]
  go_wp2_with fail
  exact hKc.out _ _ (law_C ky lo va pd tx pg sl kd m0 m1 m2 m3 mk k v rp rs pad X N R w0 _ htx hsl hkd hm0 hm1 hm2 hm3 hk1 hk hv hrp hrs hpad HMay.out hC7 hN7 hR7 hx7 hXN hNR)
end Go.Proofs.Ytaddjpngjhkkmaa
