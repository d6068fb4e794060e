/- The law from the undo record on: what the code answers, as lemmas for every input that their premises allow; a part of the proof of TopRowed. -/
import Derived.Test.YtaddjpngjhkkmaaLt
import Derived.Test.YtaddjpngjhkkmaaW20
import Derived.Test.YtaddjpngjhkkmaaW22
import Derived.Deep.CutBlock
namespace Go.Proofs.Ytaddjpngjhkkmaa
open Go.RowKit
attribute [local go_sem ↓] Go.wp_at_zero Go.wp_at_succ
attribute [local go_sem ↓] add_short
set_option maxRecDepth 1000000 in
set_option maxHeartbeats 40000000 in
theorem law_E {u0 u2 u4 u7 u8 u9 u10 u11 u12 u13 u14 u15 u16 u17 u18 u19 u20 u21 u22 u24 u25 u26 u27 u28 u29 u30 u31 u32 u33 u34 u35 u36 u37 u38 u39 u40 u41 u42 u43 u44 u45 u46 u47 u48 u49 u50 u51 u52 u53 u54 u55 u56 u57 u58 u59 u60 u61 u62 u63 u64 u65 u66 u67 u68 u69 u70 u71 u72 u73 u74 u75 u76 u77 u78 u79 u80 u81 u82 u83 u84 u85 u86 u87 u88 u89 u90 u91 u92 u93 u94 u95 u96 u97 u98 u99 u100 u101 u102 u103 u104 u105 u106 u107 u108 u109 u110 u111 u112 u113 u114 u115 u116 u117 u118 u119 u120 u121 u122 u123 u124 u125 u126 u127 u128 u129 u130 u131 u132 u133 u134 u135 u136 u137 u138 u139 u140 u141 u142 u143 u144 u145 u146 u147 u148 u149 u150 u151 u152 u153 u154 u155 u156 u157 u158 u159 u160 u161 u162 u163 u164 u165 u166 u167 u168 u169 u170 u171 u172 u173 u174 u175 u176 u177 u178 u179 u180 u181 u182 u183 u184 u185 u186 u187 u188 u189 u190 u191 u192 u193 u194 u195 u196 u197 u198 u199 u200 u201 u202 u203 u204 u205 u206 u207 u208 u209 u210 u211 u212 u213 u214 u215 u216 u217 u218 u219 u220 u221 u222 u223 u224 u225 u226 u227 u228 u229 u230 u231 u232 u233 u234 u235 u236 u237 u238 u239 u240 u241 u242 u243 u244 u245 u246 u247 u248 u249 u250 u251 u252 u253 u254 u255 u256 u257 u258 u259 u260 u261 u262 u263 u264 u265 u266 u267 u268 u269 u270 u271 u272 u273 u274 u275 u276 u277 u278 u279 u280 u281 u282 u283 u284 u285 u286 u287 u288 u289 u290 u291 u292 u293 u294 u295 u296 u297 u298 u299 u300 u301 u302 u303 u304 u305 u306 u307 u308 u309 u310 u311 u312 u313 u314 u315 u316 u317 u318 u319 u320 u321 u322 u323 u324 u325 u326 u327 u328 u329 u330 u331 u332 u333 u334 u335 u336 : Value} (ky lo va pd tx pg sl kd m0 m1 m2 m3 : Nat) (mk : Bool) (X N P : Nat) (w0 w : World) (htx : tx < 65536) (hsl : sl < 65536) (hkd : kd < 256) (hm0 : m0 < 4294967296) (hm1 : m1 < 4294967296) (hm2 : m2 < 4294967296) (hm3 : m3 < 4294967296)
    (op tu s2 s3 : Nat) (k kw vw : List UInt8) (mw : Bool) (tw pw sw : Nat) (aw : Int) (B : List UInt8) (hB : B.length ≤ 1000)
    (HE : ∀ W : World, Calls Try.prog 14 #[.agg #[.int .u8 op, .int .u64 tu, .int .u32 s2, .int .u16 s3, .string ⟨k.toArray⟩, .string ⟨kw.toArray⟩, .bool mw, .int .u64 tw, .int .u32 pw, .int .u16 sw, .string ⟨vw.toArray⟩, .int .i64 aw]] W fun e w' => e = .returned (.tuple #[.string ⟨B.toArray⟩, .int .i64 0]) ∧ Below W.heap.size W w')
    (HS : ∀ W : World, Calls Try.prog 16 #[.agg #[.int .u8 op, .int .u64 tu, .int .u32 s2, .int .u16 s3, .string ⟨k.toArray⟩, .string ⟨kw.toArray⟩, .bool mw, .int .u64 tw, .int .u32 pw, .int .u16 sw, .string ⟨vw.toArray⟩, .int .i64 aw]] W fun e w' => e = .returned (.string ⟨B.toArray⟩) ∧ Below W.heap.size W w')
    (HD : ∀ W : World, Calls Try.prog 15 #[.string ⟨B.toArray⟩] W fun e w' => e = .returned (.tuple #[.agg #[.int .u8 op, .int .u64 tu, .int .u32 s2, .int .u16 s3, .string ⟨k.toArray⟩, .string ⟨kw.toArray⟩, .bool mw, .int .u64 tw, .int .u32 pw, .int .u16 sw, .string ⟨vw.toArray⟩, .int .i64 aw], .int .i64 0]) ∧ Below W.heap.size W w')
    (hC : Blk w X 24 #[.int .u8 ky, .int .u8 lo, .int .u8 va, .int .u8 pd, .bool mk, .int .u16 tx, .int .u16 pg, .int .u16 sl]) (hN : Blk w N 26 #[.int .u32 m0, .int .u32 m1, .int .u32 m2, .int .u32 m3]) (hU : Blk w P 50 #[.int .u8 op, .int .u64 tu, .int .u32 s2, .int .u16 s3, .string ⟨k.toArray⟩, .string ⟨kw.toArray⟩, .bool mw, .int .u64 tw, .int .u32 pw, .int .u16 sw, .string ⟨vw.toArray⟩, .int .i64 aw]) (hx : Below w0.heap.size w0 w) :
    Code.wp Try.prog (lawTail 16) (bodyPost Try.prog Try.f3 fun e w' => e = .returned (.bool true) ∧ Below w0.heap.size w0 w') ⟨List.toArray (u0 :: Value.int .u8 kd :: u2 :: Value.pointer (some ⟨X, 0, none⟩) :: u4 :: Value.pointer (some ⟨N, 0, none⟩) :: Value.bool false :: u7 :: u8 :: u9 :: u10 :: u11 :: u12 :: u13 :: u14 :: u15 :: u16 :: u17 :: u18 :: u19 :: u20 :: u21 :: u22 :: Value.pointer (some ⟨P, 0, none⟩) :: u24 :: u25 :: u26 :: u27 :: u28 :: u29 :: u30 :: u31 :: u32 :: u33 :: u34 :: u35 :: u36 :: u37 :: u38 :: u39 :: u40 :: u41 :: u42 :: u43 :: u44 :: u45 :: u46 :: u47 :: u48 :: u49 :: u50 :: u51 :: u52 :: u53 :: u54 :: u55 :: u56 :: u57 :: u58 :: u59 :: u60 :: u61 :: u62 :: u63 :: u64 :: u65 :: u66 :: u67 :: u68 :: u69 :: u70 :: u71 :: u72 :: u73 :: u74 :: u75 :: u76 :: u77 :: u78 :: u79 :: u80 :: u81 :: u82 :: u83 :: u84 :: u85 :: u86 :: u87 :: u88 :: u89 :: u90 :: u91 :: u92 :: u93 :: u94 :: u95 :: u96 :: u97 :: u98 :: u99 :: u100 :: u101 :: u102 :: u103 :: u104 :: u105 :: u106 :: u107 :: u108 :: u109 :: u110 :: u111 :: u112 :: u113 :: u114 :: u115 :: u116 :: u117 :: u118 :: u119 :: u120 :: u121 :: u122 :: u123 :: u124 :: u125 :: u126 :: u127 :: u128 :: u129 :: u130 :: u131 :: u132 :: u133 :: u134 :: u135 :: u136 :: u137 :: u138 :: u139 :: u140 :: u141 :: u142 :: u143 :: u144 :: u145 :: u146 :: u147 :: u148 :: u149 :: u150 :: u151 :: u152 :: u153 :: u154 :: u155 :: u156 :: u157 :: u158 :: u159 :: u160 :: u161 :: u162 :: u163 :: u164 :: u165 :: u166 :: u167 :: u168 :: u169 :: u170 :: u171 :: u172 :: u173 :: u174 :: u175 :: u176 :: u177 :: u178 :: u179 :: u180 :: u181 :: u182 :: u183 :: u184 :: u185 :: u186 :: u187 :: u188 :: u189 :: u190 :: u191 :: u192 :: u193 :: u194 :: u195 :: u196 :: u197 :: u198 :: u199 :: u200 :: u201 :: u202 :: u203 :: u204 :: u205 :: u206 :: u207 :: u208 :: u209 :: u210 :: u211 :: u212 :: u213 :: u214 :: u215 :: u216 :: u217 :: u218 :: u219 :: u220 :: u221 :: u222 :: u223 :: u224 :: u225 :: u226 :: u227 :: u228 :: u229 :: u230 :: u231 :: u232 :: u233 :: u234 :: u235 :: u236 :: u237 :: u238 :: u239 :: u240 :: u241 :: u242 :: u243 :: u244 :: u245 :: u246 :: u247 :: u248 :: u249 :: u250 :: u251 :: u252 :: u253 :: u254 :: u255 :: u256 :: u257 :: u258 :: u259 :: u260 :: u261 :: u262 :: u263 :: u264 :: u265 :: u266 :: u267 :: u268 :: u269 :: u270 :: u271 :: u272 :: u273 :: u274 :: u275 :: u276 :: u277 :: u278 :: u279 :: u280 :: u281 :: u282 :: u283 :: u284 :: u285 :: u286 :: u287 :: u288 :: u289 :: u290 :: u291 :: u292 :: u293 :: u294 :: u295 :: u296 :: u297 :: u298 :: u299 :: u300 :: u301 :: u302 :: u303 :: u304 :: u305 :: u306 :: u307 :: u308 :: u309 :: u310 :: u311 :: u312 :: u313 :: u314 :: u315 :: u316 :: u317 :: u318 :: u319 :: u320 :: u321 :: u322 :: u323 :: u324 :: u325 :: u326 :: u327 :: u328 :: u329 :: u330 :: u331 :: u332 :: u333 :: u334 :: u335 :: u336 :: []), []⟩ w := by
  conv => arg 2; whnf
  replace HE := Lib.hid HE
  replace HS := Lib.hid HS
  replace HD := Lib.hid HD
  have : Short B 1000 := ⟨hB⟩
  have cU := hU.cell
  go_wp2_with fail
  refine (HE.out _).mono ?_
  rintro e v1 ⟨rfl, hb1⟩
  have hU1 := hU.after hb1
  have hC1 := hC.after hb1
  have hN1 := hN.after hb1
  have hx1 := bt hx hb1
  clear hU hC hN hx hb1 cU
  have cU1 := hU1.cell
  go_wp2_with fail
  refine (HS.out _).mono ?_
  rintro e v2 ⟨rfl, hb2⟩
  have hU2 := hU1.after hb2
  have hC2 := hC1.after hb2
  have hN2 := hN1.after hb2
  have hx2 := bt hx1 hb2
  clear hU1 hC1 hN1 hx1 hb2 cU1
  go_wp2_with fail
  refine (HD.out _).mono ?_
  rintro e v3 ⟨rfl, hb3⟩
  have hU3 := hU2.after hb3
  have hC3 := hC2.after hb3
  have hN3 := hN2.after hb3
  have hx3 := bt hx2 hb3
  clear hU2 hC2 hN2 hx2 hb3
  have cU3 := hU3.cell
  have lU3 := hU3.lt
  go_wp2_with fail
  have hQ4 := Blk.new v3 50 #[.int .u8 op, .int .u64 tu, .int .u32 s2, .int .u16 s3, .string ⟨k.toArray⟩, .string ⟨kw.toArray⟩, .bool mw, .int .u64 tw, .int .u32 pw, .int .u16 sw, .string ⟨vw.toArray⟩, .int .i64 aw]
  have hU4 := hU3.alloc (.cells #[.int .u8 op, .int .u64 tu, .int .u32 s2, .int .u16 s3, .string ⟨k.toArray⟩, .string ⟨kw.toArray⟩, .bool mw, .int .u64 tw, .int .u32 pw, .int .u16 sw, .string ⟨vw.toArray⟩, .int .i64 aw] 50)
  have hC4 := hC3.alloc (.cells #[.int .u8 op, .int .u64 tu, .int .u32 s2, .int .u16 s3, .string ⟨k.toArray⟩, .string ⟨kw.toArray⟩, .bool mw, .int .u64 tw, .int .u32 pw, .int .u16 sw, .string ⟨vw.toArray⟩, .int .i64 aw] 50)
  have hN4 := hN3.alloc (.cells #[.int .u8 op, .int .u64 tu, .int .u32 s2, .int .u16 s3, .string ⟨k.toArray⟩, .string ⟨kw.toArray⟩, .bool mw, .int .u64 tw, .int .u32 pw, .int .u16 sw, .string ⟨vw.toArray⟩, .int .i64 aw] 50)
  have hx4 := ba hx3 (.cells #[.int .u8 op, .int .u64 tu, .int .u32 s2, .int .u16 s3, .string ⟨k.toArray⟩, .string ⟨kw.toArray⟩, .bool mw, .int .u64 tw, .int .u32 pw, .int .u16 sw, .string ⟨vw.toArray⟩, .int .i64 aw] 50)
  clear hU3 hC3 hN3 hx3 cU3 lU3
  generalize v3.alloc (.cells #[.int .u8 op, .int .u64 tu, .int .u32 s2, .int .u16 s3, .string ⟨k.toArray⟩, .string ⟨kw.toArray⟩, .bool mw, .int .u64 tw, .int .u32 pw, .int .u16 sw, .string ⟨vw.toArray⟩, .int .i64 aw] 50) = v4 at *
  generalize v3.heap.size = Q at *
  refine (HS.out _).mono ?_
  rintro e v5 ⟨rfl, hb5⟩
  have hU5 := hU4.after hb5
  have hQ5 := hQ4.after hb5
  have hC5 := hC4.after hb5
  have hN5 := hN4.after hb5
  have hx5 := bt hx4 hb5
  clear hU4 hQ4 hC4 hN4 hx4 hb5
  have cU5 := hU5.cell
  have cQ5 := hQ5.cell
  go_upto_if 254 with fail
  go_step
  go_step
  go_step
  go_step
  exact law_F ky lo va pd tx pg sl kd m0 m1 m2 m3 mk X N w0 _ htx hsl hkd hm0 hm1 hm2 hm3 hC5 hN5 hx5
end Go.Proofs.Ytaddjpngjhkkmaa
