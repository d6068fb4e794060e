/- The law from the shortened row on: what the code answers, as lemmas for every input that their premises allow; a part of the proof of TopRowed. -/
import Derived.Test.YtaddjpngjhkkmaaLt
import Derived.Test.YtaddjpngjhkkmaaW24
import Derived.Deep.CutBlock
namespace Go.Proofs.Ytaddjpngjhkkmaa
open Go.RowKit
attribute [local go_sem ↓] Go.wp_at_zero Go.wp_at_succ
attribute [local go_sem ↓] add_short
set_option maxRecDepth 1000000 in
set_option maxHeartbeats 40000000 in
theorem law_A2 {u0 u2 u4 u9 u10 u11 u12 u13 u14 u15 u16 u17 u18 u19 u20 u21 u22 u23 u24 u25 u26 u27 u28 u29 u30 u31 u32 u33 u34 u35 u36 u37 u38 u39 u40 u41 u42 u43 u44 u45 u46 u47 u48 u49 u50 u51 u52 u53 u54 u55 u56 u57 u58 u59 u60 u61 u62 u63 u64 u65 u66 u67 u68 u69 u70 u71 u72 u73 u74 u75 u76 u77 u78 u79 u80 u81 u82 u83 u84 u85 u86 u87 u88 u89 u90 u91 u92 u93 u94 u95 u96 u97 u98 u99 u100 u101 u102 u103 u104 u105 u106 u107 u108 u109 u110 u111 u112 u113 u114 u115 u116 u117 u118 u119 u120 u121 u122 u123 u124 u125 u126 u127 u128 u129 u130 u131 u132 u133 u134 u135 u136 u137 u138 u139 u140 u141 u142 u143 u144 u145 u146 u147 u148 u149 u150 u151 u152 u153 u154 u155 u156 u157 u158 u159 u160 u161 u162 u163 u164 u165 u166 u167 u168 u169 u170 u171 u172 u173 u174 u175 u176 u177 u178 u179 u180 u181 u182 u183 u184 u185 u186 u187 u188 u189 u190 u191 u192 u193 u194 u195 u196 u197 u198 u199 u200 u201 u202 u203 u204 u205 u206 u207 u208 u209 u210 u211 u212 u213 u214 u215 u216 u217 u218 u219 u220 u221 u222 u223 u224 u225 u226 u227 u228 u229 u230 u231 u232 u233 u234 u235 u236 u237 u238 u239 u240 u241 u242 u243 u244 u245 u246 u247 u248 u249 u250 u251 u252 u253 u254 u255 u256 u257 u258 u259 u260 u261 u262 u263 u264 u265 u266 u267 u268 u269 u270 u271 u272 u273 u274 u275 u276 u277 u278 u279 u280 u281 u282 u283 u284 u285 u286 u287 u288 u289 u290 u291 u292 u293 u294 u295 u296 u297 u298 u299 u300 u301 u302 u303 u304 u305 u306 u307 u308 u309 u310 u311 u312 u313 u314 u315 u316 u317 u318 u319 u320 u321 u322 u323 u324 u325 u326 u327 u328 u329 u330 u331 u332 u333 u334 u335 u336 : Value} (ky lo va pd tx pg sl kd m0 m1 m2 m3 : Nat) (mk : Bool) (k v : List UInt8) (rp rs pad X N R : Nat) (w0 w : World) (htx : tx < 65536) (hsl : sl < 65536) (hkd : kd < 256) (hm0 : m0 < 4294967296) (hm1 : m1 < 4294967296) (hm2 : m2 < 4294967296) (hm3 : m3 < 4294967296)
    (hk1 : 1 ≤ k.length) (hk : k.length ≤ 48) (hv : v.length ≤ 96) (hrp : rp ≤ 1024) (hrs : rs < 65536) (hpad : pad ≤ 96) (hmay : Pm.may k v rp rs pad = true)
    (E k3 v3 : List UInt8) (mk3 : Bool) (tx3 rp3 rs3 : Nat) (pad3 e3 : Int) (b3 : Bool) (hE1 : 1 ≤ E.length) (hE2 : E.length ≤ 1000) (hfit3 : decide (0 < (pad : Int)) = b3) (he3 : (e3 == 0) = b3)
    (HD3 : ∀ W, Calls Try.prog 6 #[.string ⟨(E.take (E.length - 1)).toArray⟩] W fun e w' => e = .returned (.tuple #[.agg #[.string ⟨k3.toArray⟩, .bool mk3, .int .u64 tx3, .int .u32 rp3, .int .u16 rs3, .string ⟨v3.toArray⟩, .int .i64 pad3], .int .i64 e3]) ∧ Below W.heap.size W w')
    (hC : Blk w X 24 #[.int .u8 ky, .int .u8 lo, .int .u8 va, .int .u8 pd, .bool mk, .int .u16 tx, .int .u16 pg, .int .u16 sl]) (hN : Blk w N 26 #[.int .u32 m0, .int .u32 m1, .int .u32 m2, .int .u32 m3]) (hR : Blk w R 31 #[.string ⟨k.toArray⟩, .bool mk, .int .u64 tx, .int .u32 rp, .int .u16 rs, .string ⟨v.toArray⟩, .int .i64 pad]) (hx : Below w0.heap.size w0 w) (hXN : X < N) (hNR : N < R) :
    Code.wp Try.prog (lawTail 7) (bodyPost Try.prog Try.f3 fun e w' => e = .returned (.bool true) ∧ Below w0.heap.size w0 w') ⟨List.toArray (u0 :: Value.int .u8 kd :: u2 :: Value.pointer (some ⟨X, 0, none⟩) :: u4 :: Value.pointer (some ⟨N, 0, none⟩) :: Value.bool false :: Value.pointer (some ⟨R, 0, none⟩) :: Value.string ⟨E.toArray⟩ :: u9 :: u10 :: u11 :: u12 :: u13 :: u14 :: u15 :: u16 :: u17 :: u18 :: u19 :: u20 :: u21 :: u22 :: u23 :: u24 :: u25 :: u26 :: u27 :: u28 :: u29 :: u30 :: u31 :: u32 :: u33 :: u34 :: u35 :: u36 :: u37 :: u38 :: u39 :: u40 :: u41 :: u42 :: u43 :: u44 :: u45 :: u46 :: u47 :: u48 :: u49 :: u50 :: u51 :: u52 :: u53 :: u54 :: u55 :: u56 :: u57 :: u58 :: u59 :: u60 :: u61 :: u62 :: u63 :: u64 :: u65 :: u66 :: u67 :: u68 :: u69 :: u70 :: u71 :: u72 :: u73 :: u74 :: u75 :: u76 :: u77 :: u78 :: u79 :: u80 :: u81 :: u82 :: u83 :: u84 :: u85 :: u86 :: u87 :: u88 :: u89 :: u90 :: u91 :: u92 :: u93 :: u94 :: u95 :: u96 :: u97 :: u98 :: u99 :: u100 :: u101 :: u102 :: u103 :: u104 :: u105 :: u106 :: u107 :: u108 :: u109 :: u110 :: u111 :: u112 :: u113 :: u114 :: u115 :: u116 :: u117 :: u118 :: u119 :: u120 :: u121 :: u122 :: u123 :: u124 :: u125 :: u126 :: u127 :: u128 :: u129 :: u130 :: u131 :: u132 :: u133 :: u134 :: u135 :: u136 :: u137 :: u138 :: u139 :: u140 :: u141 :: u142 :: u143 :: u144 :: u145 :: u146 :: u147 :: u148 :: u149 :: u150 :: u151 :: u152 :: u153 :: u154 :: u155 :: u156 :: u157 :: u158 :: u159 :: u160 :: u161 :: u162 :: u163 :: u164 :: u165 :: u166 :: u167 :: u168 :: u169 :: u170 :: u171 :: u172 :: u173 :: u174 :: u175 :: u176 :: u177 :: u178 :: u179 :: u180 :: u181 :: u182 :: u183 :: u184 :: u185 :: u186 :: u187 :: u188 :: u189 :: u190 :: u191 :: u192 :: u193 :: u194 :: u195 :: u196 :: u197 :: u198 :: u199 :: u200 :: u201 :: u202 :: u203 :: u204 :: u205 :: u206 :: u207 :: u208 :: u209 :: u210 :: u211 :: u212 :: u213 :: u214 :: u215 :: u216 :: u217 :: u218 :: u219 :: u220 :: u221 :: u222 :: u223 :: u224 :: u225 :: u226 :: u227 :: u228 :: u229 :: u230 :: u231 :: u232 :: u233 :: u234 :: u235 :: u236 :: u237 :: u238 :: u239 :: u240 :: u241 :: u242 :: u243 :: u244 :: u245 :: u246 :: u247 :: u248 :: u249 :: u250 :: u251 :: u252 :: u253 :: u254 :: u255 :: u256 :: u257 :: u258 :: u259 :: u260 :: u261 :: u262 :: u263 :: u264 :: u265 :: u266 :: u267 :: u268 :: u269 :: u270 :: u271 :: u272 :: u273 :: u274 :: u275 :: u276 :: u277 :: u278 :: u279 :: u280 :: u281 :: u282 :: u283 :: u284 :: u285 :: u286 :: u287 :: u288 :: u289 :: u290 :: u291 :: u292 :: u293 :: u294 :: u295 :: u296 :: u297 :: u298 :: u299 :: u300 :: u301 :: u302 :: u303 :: u304 :: u305 :: u306 :: u307 :: u308 :: u309 :: u310 :: u311 :: u312 :: u313 :: u314 :: u315 :: u316 :: u317 :: u318 :: u319 :: u320 :: u321 :: u322 :: u323 :: u324 :: u325 :: u326 :: u327 :: u328 :: u329 :: u330 :: u331 :: u332 :: u333 :: u334 :: u335 :: u336 :: []), []⟩ w := by
  conv => arg 2; whnf
  have HMay := Lib.hid hmay
  clear hmay
  replace HD3 := Lib.hid HD3
  obtain ⟨n, hn⟩ : ∃ n : Nat, n = E.length - 1 := ⟨_, rfl⟩
  rw [← hn] at HD3
  have hw1 : IntKind.i64.wrap ((E.length : Int) - 1) = (n : Int) := by rw [hn, IntWalk.i64_in _ (by omega)]; omega
  have hsl10 : ∀ W : World, (Instr.slice 9 (.string ⟨E.toArray⟩) none (some (.int .i64 (n : Int))) none).run Try.prog W = .ok (.string ⟨(E.take n).toArray⟩) W := fun W => by
    have hsz : (ByteArray.mk E.toArray).size = E.length := by simp [ByteArray.size]
    rw [run_slice_string_to_if W 9 ⟨E.toArray⟩ .i64 (n : Int) Try.underlying9, hsz, if_pos (by omega), Int.toNat_natCast, ByteArray.extract_mk]
    simp
  clear hn
  obtain ⟨D, hD⟩ : ∃ D, D = E.take n := ⟨_, rfl⟩
  rw [← hD] at HD3 hsl10
  clear hD
  have hfit3' : decide (0 < pad) = b3 := by simpa using hfit3
  go_wp2_with fail
  refine (HD3.out _).mono ?_
  rintro e w1 ⟨rfl, hb1⟩
  have hC1 := hC.after hb1
  have hN1 := hN.after hb1
  have hR1 := hR.after hb1
  have hx1 := bt hx hb1
  clear hC hN hR hx hb1
  have cR1 := hR1.cell
  have lR1 := hR1.lt
  cases b3
  all_goals (
    go_upto_if 115 with fail
    go_step
    go_step
    go_step
    go_step
    exact law_B ky lo va pd tx pg sl kd m0 m1 m2 m3 mk k v rp rs pad X N R w0 _ htx hsl hkd hm0 hm1 hm2 hm3 hk1 hk hv hrp hrs hpad HMay.out (hC1.alloc (.cells #[.string ⟨k3.toArray⟩, .bool mk3, .int .u64 tx3, .int .u32 rp3, .int .u16 rs3, .string ⟨v3.toArray⟩, .int .i64 pad3] 31)) (hN1.alloc (.cells #[.string ⟨k3.toArray⟩, .bool mk3, .int .u64 tx3, .int .u32 rp3, .int .u16 rs3, .string ⟨v3.toArray⟩, .int .i64 pad3] 31)) (hR1.alloc (.cells #[.string ⟨k3.toArray⟩, .bool mk3, .int .u64 tx3, .int .u32 rp3, .int .u16 rs3, .string ⟨v3.toArray⟩, .int .i64 pad3] 31)) (ba hx1 (.cells #[.string ⟨k3.toArray⟩, .bool mk3, .int .u64 tx3, .int .u32 rp3, .int .u16 rs3, .string ⟨v3.toArray⟩, .int .i64 pad3] 31)) hXN hNR)
end Go.Proofs.Ytaddjpngjhkkmaa
