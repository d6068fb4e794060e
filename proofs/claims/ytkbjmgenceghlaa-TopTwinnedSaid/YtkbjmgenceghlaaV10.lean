/- A page more, or none. -/
import Derived.Test.YtkbjmgenceghlaaV9
namespace Go.Proofs.Ytkbjmgenceghlaa
open Go.RowKit
attribute [local go_sem ↓] Go.wp_at_zero Go.wp_at_succ
theorem info37 : ∃ i z, Try.prog.info? 37 = some i ∧ i.zero = some z ∧ i.size = 1 ∧ i.bytes = 4 ∧ z.cells.size = 1 := info_size (by kernel_rfl)
theorem rep_r (c : Nat) (w : World) (hc : c ≤ 255) : Calls Try.prog 5 #[.string ⟨#[114]⟩, .int .i64 c] w fun e w' => ∃ l : List UInt8, l.length ≤ 255 ∧ e = .returned (.string ⟨l.toArray⟩) ∧ Below w.heap.size w w' := by
  refine (rep_any c 114 w (by omega)).mono ?_
  rintro e w' ⟨rfl, hb⟩
  exact ⟨_, by simpa using hc, rfl, hb⟩
set_option maxRecDepth 1000000 in
set_option maxHeartbeats 8000000 in
theorem law_page {u0 u1 u2 u4 u6 u8 u11 u18 u19 u20 u21 u22 u23 u24 u25 u26 u27 u28 u29 u30 u31 u32 u33 u34 u35 u36 u37 u38 u39 u40 u41 u42 u43 u44 u45 u46 u47 u48 u49 u50 u51 u52 u53 u54 u55 u56 u57 u58 u59 u60 u61 u62 u63 u64 u65 u66 u67 u68 u69 u70 u71 u72 u73 u74 u75 u76 u78 u79 u80 u81 u82 u83 u84 u85 u86 u87 u88 u89 u90 u91 u92 u93 u94 u95 u96 u97 u98 u99 u100 u101 u102 u103 u104 u105 u106 u107 u108 u109 u110 u111 u112 u113 u114 u115 u116 u117 u118 u119 u120 u121 u122 u123 u124 u125 u126 u127 u128 u129 u130 u131 u132 u133 u134 u135 u136 u137 u138 u139 u140 u141 u142 u143 u144 u145 u146 u147 u148 u149 u150 u151 u152 u153 u154 u155 u156 u157 u158 u159 u160 u161 u162 u163 u164 u165 u166 u167 u168 u169 u170 u171 u172 u173 u174 u175 u176 u177 u178 u179 u180 u181 u182 u183 u184 u185 u186 u187 u188 u189 u190 u191 u192 u193 u194 u195 u196 u197 u198 u199 u200 u201 u202 u203 u204 u205 u206 u207 u208 u209 u210 u211 u212 u213 u214 u215 u216 u217 u218 u219 u220 u221 u222 u223 u224 u225 u226 u227 u228 u229 u230 u231 u232 u233 u234 u235 u236 u237 u238 u239 u240 u241 u242 u243 u244 u245 u246 u247 u248 u249 u250 u251 u252 u253 u254 u255 u256 u257 u258 u259 u260 u261 u262 u263 u264 u265 u266 u267 u268 u269 u270 u271 u272 u273 u274 u275 u276 u277 u278 u279 u280 u281 u282 u283 u284 u285 u286 u287 u288 u289 u290 u291 u292 u293 u294 u295 u296 u297 u298 u299 u300 u301 u302 u303 u304 u305 u306 u307 u308 u309 u310 u311 u312 u313 u314 u315 u316 u317 u318 u319 u320 u321 u322 u323 u324 u325 u326 u327 u328 u329 u330 u331 u332 u333 u334 u335 u336 u337 u338 u339 u340 u341 u342 u343 u344 u345 u346 u347 u348 u349 u350 u351 : Value} (base d bx gs bk bA i k a1 a2 a3 : Nat) (acs : Array Value) (hv iv av ov kv : Value) (hs : List (Nat × List UInt8)) (ids : List Nat) (A O : List Pm.Cl) (keep : List Bool) (u : List (List UInt8)) (w0 wS w : World) (Q : Exit → Act → World → Prop)
    (hR : HRows base w0 wS w d bx gs bk kv keep u hv iv av ov hs ids A O) (hi : i ≤ 100) (hk : k ≤ 8) (hn8 : ids.length ≤ 8) (hh8 : hs.length ≤ 8) (hAO : A.length ≤ 900 ∧ O.length ≤ 900) (ha : Blk wS bA 40 acs) (hrow : Blk wS gs 9 (sureArr u)) (hc1 : acs[1]? = some (.int .u8 a1)) (hc2 : acs[2]? = some (.int .u8 a2)) (hc3 : acs[3]? = some (.int .u8 a3)) (ha1 : a1 ≤ 255) (ha2 : a2 ≤ 255) (ha3 : a3 ≤ 255)
    (hQ5 : ∀ (v18 v19 v79 v80 v81 v82 v83 v84 v85 v86 v87 v88 v89 v90 v91 v92 v93 v94 v95 : Value) (p : Nat), p ∈ ids → Q (.exit 5) ⟨List.toArray (u0 :: u1 :: u2 :: Value.pointer (some ⟨bk, 0, none⟩) :: u4 :: Value.pointer (some ⟨d, 0, none⟩) :: u6 :: Value.pointer (some ⟨bx, 0, none⟩) :: u8 :: Value.string ⟨(Pm.zeros 128).toArray⟩ :: Value.func (.func 6) #[] #[.pointer (some ⟨bx, 0, none⟩), .pointer (some ⟨bk, 0, none⟩)] :: u11 :: Value.int .i64 i :: Value.pointer (some ⟨bA, 0, none⟩) :: hv :: iv :: av :: ov :: v18 :: v19 :: u20 :: u21 :: u22 :: u23 :: u24 :: u25 :: u26 :: u27 :: u28 :: u29 :: u30 :: u31 :: u32 :: u33 :: u34 :: u35 :: u36 :: u37 :: u38 :: u39 :: u40 :: u41 :: u42 :: u43 :: u44 :: u45 :: u46 :: u47 :: u48 :: u49 :: u50 :: u51 :: u52 :: u53 :: u54 :: u55 :: u56 :: u57 :: u58 :: u59 :: u60 :: u61 :: u62 :: u63 :: u64 :: u65 :: u66 :: u67 :: u68 :: u69 :: u70 :: u71 :: u72 :: u73 :: u74 :: u75 :: u76 :: Value.int .i64 k :: u78 :: v79 :: v80 :: v81 :: v82 :: v83 :: v84 :: v85 :: v86 :: v87 :: v88 :: v89 :: v90 :: v91 :: v92 :: v93 :: v94 :: v95 :: u96 :: u97 :: u98 :: u99 :: u100 :: u101 :: u102 :: u103 :: u104 :: u105 :: u106 :: u107 :: u108 :: u109 :: u110 :: u111 :: u112 :: u113 :: u114 :: u115 :: u116 :: u117 :: u118 :: u119 :: u120 :: u121 :: u122 :: u123 :: u124 :: u125 :: u126 :: u127 :: u128 :: u129 :: u130 :: u131 :: u132 :: u133 :: u134 :: u135 :: u136 :: u137 :: u138 :: u139 :: u140 :: u141 :: u142 :: u143 :: u144 :: u145 :: u146 :: u147 :: u148 :: u149 :: u150 :: u151 :: u152 :: u153 :: u154 :: u155 :: u156 :: u157 :: u158 :: u159 :: u160 :: u161 :: u162 :: u163 :: u164 :: u165 :: u166 :: u167 :: u168 :: u169 :: u170 :: u171 :: u172 :: u173 :: u174 :: u175 :: u176 :: u177 :: u178 :: u179 :: u180 :: u181 :: u182 :: u183 :: u184 :: u185 :: u186 :: u187 :: u188 :: u189 :: u190 :: u191 :: u192 :: u193 :: u194 :: u195 :: u196 :: u197 :: u198 :: u199 :: u200 :: u201 :: u202 :: u203 :: u204 :: u205 :: u206 :: u207 :: u208 :: u209 :: u210 :: u211 :: u212 :: u213 :: u214 :: u215 :: u216 :: u217 :: u218 :: u219 :: u220 :: u221 :: u222 :: u223 :: u224 :: u225 :: u226 :: u227 :: u228 :: u229 :: u230 :: u231 :: u232 :: u233 :: u234 :: u235 :: u236 :: u237 :: u238 :: u239 :: u240 :: u241 :: u242 :: u243 :: u244 :: u245 :: u246 :: u247 :: u248 :: u249 :: u250 :: u251 :: u252 :: u253 :: u254 :: u255 :: u256 :: u257 :: u258 :: u259 :: u260 :: u261 :: u262 :: u263 :: u264 :: u265 :: u266 :: u267 :: u268 :: u269 :: u270 :: u271 :: u272 :: u273 :: u274 :: u275 :: u276 :: u277 :: u278 :: u279 :: u280 :: u281 :: u282 :: u283 :: u284 :: u285 :: u286 :: u287 :: u288 :: u289 :: u290 :: u291 :: u292 :: u293 :: u294 :: u295 :: u296 :: u297 :: u298 :: u299 :: u300 :: u301 :: u302 :: u303 :: u304 :: u305 :: u306 :: u307 :: u308 :: u309 :: u310 :: u311 :: u312 :: u313 :: u314 :: u315 :: u316 :: u317 :: u318 :: u319 :: u320 :: u321 :: u322 :: u323 :: u324 :: u325 :: u326 :: u327 :: u328 :: u329 :: u330 :: u331 :: u332 :: u333 :: u334 :: u335 :: u336 :: u337 :: u338 :: u339 :: u340 :: u341 :: u342 :: u343 :: u344 :: u345 :: u346 :: u347 :: u348 :: u349 :: u350 :: u351 :: []), []⟩ w)
    (hQ : ∀ (v18 v19 v20 v21 v79 v80 v81 v82 v83 v84 v85 v86 v87 v88 v89 v90 v91 v92 v93 v94 v95 v96 v97 v98 v99 v100 v101 v102 v103 v104 v105 v106 v107 v108 v109 v110 v111 v112 v113 v114 v115 v116 v117 v118 v119 v120 v121 v122 v123 v124 v125 v126 v127 v128 v129 v130 v131 v132 v133 v134 v135 v136 v137 v138 v139 v140 v141 v142 v143 v144 v145 v146 v147 v148 v149 v150 v151 v152 v153 v154 v155 : Value) (w' : World) (hv' iv' av' ov' : Value) (p : Nat) (pg : List UInt8), p ∉ ids → p ≤ 12 → pg.length = 512 → HRows base w0 wS w' d bx gs bk kv keep u hv' iv' av' ov' (hs ++ [(p, pg)]) (ids ++ [p]) (A ++ Pm.pageW 3 (ids.length, pg) 4) (O ++ Pm.pageW 35 (p, pg) 4) → Q .normal ⟨List.toArray (u0 :: u1 :: u2 :: Value.pointer (some ⟨bk, 0, none⟩) :: u4 :: Value.pointer (some ⟨d, 0, none⟩) :: u6 :: Value.pointer (some ⟨bx, 0, none⟩) :: u8 :: Value.string ⟨(Pm.zeros 128).toArray⟩ :: Value.func (.func 6) #[] #[.pointer (some ⟨bx, 0, none⟩), .pointer (some ⟨bk, 0, none⟩)] :: u11 :: Value.int .i64 i :: Value.pointer (some ⟨bA, 0, none⟩) :: hv' :: iv' :: av' :: ov' :: v18 :: v19 :: v20 :: v21 :: u22 :: u23 :: u24 :: u25 :: u26 :: u27 :: u28 :: u29 :: u30 :: u31 :: u32 :: u33 :: u34 :: u35 :: u36 :: u37 :: u38 :: u39 :: u40 :: u41 :: u42 :: u43 :: u44 :: u45 :: u46 :: u47 :: u48 :: u49 :: u50 :: u51 :: u52 :: u53 :: u54 :: u55 :: u56 :: u57 :: u58 :: u59 :: u60 :: u61 :: u62 :: u63 :: u64 :: u65 :: u66 :: u67 :: u68 :: u69 :: u70 :: u71 :: u72 :: u73 :: u74 :: u75 :: u76 :: Value.int .i64 k :: u78 :: v79 :: v80 :: v81 :: v82 :: v83 :: v84 :: v85 :: v86 :: v87 :: v88 :: v89 :: v90 :: v91 :: v92 :: v93 :: v94 :: v95 :: v96 :: v97 :: v98 :: v99 :: v100 :: v101 :: v102 :: v103 :: v104 :: v105 :: v106 :: v107 :: v108 :: v109 :: v110 :: v111 :: v112 :: v113 :: v114 :: v115 :: v116 :: v117 :: v118 :: v119 :: v120 :: v121 :: v122 :: v123 :: v124 :: v125 :: v126 :: v127 :: v128 :: v129 :: v130 :: v131 :: v132 :: v133 :: v134 :: v135 :: v136 :: v137 :: v138 :: v139 :: v140 :: v141 :: v142 :: v143 :: v144 :: v145 :: v146 :: v147 :: v148 :: v149 :: v150 :: v151 :: v152 :: v153 :: v154 :: v155 :: u156 :: u157 :: u158 :: u159 :: u160 :: u161 :: u162 :: u163 :: u164 :: u165 :: u166 :: u167 :: u168 :: u169 :: u170 :: u171 :: u172 :: u173 :: u174 :: u175 :: u176 :: u177 :: u178 :: u179 :: u180 :: u181 :: u182 :: u183 :: u184 :: u185 :: u186 :: u187 :: u188 :: u189 :: u190 :: u191 :: u192 :: u193 :: u194 :: u195 :: u196 :: u197 :: u198 :: u199 :: u200 :: u201 :: u202 :: u203 :: u204 :: u205 :: u206 :: u207 :: u208 :: u209 :: u210 :: u211 :: u212 :: u213 :: u214 :: u215 :: u216 :: u217 :: u218 :: u219 :: u220 :: u221 :: u222 :: u223 :: u224 :: u225 :: u226 :: u227 :: u228 :: u229 :: u230 :: u231 :: u232 :: u233 :: u234 :: u235 :: u236 :: u237 :: u238 :: u239 :: u240 :: u241 :: u242 :: u243 :: u244 :: u245 :: u246 :: u247 :: u248 :: u249 :: u250 :: u251 :: u252 :: u253 :: u254 :: u255 :: u256 :: u257 :: u258 :: u259 :: u260 :: u261 :: u262 :: u263 :: u264 :: u265 :: u266 :: u267 :: u268 :: u269 :: u270 :: u271 :: u272 :: u273 :: u274 :: u275 :: u276 :: u277 :: u278 :: u279 :: u280 :: u281 :: u282 :: u283 :: u284 :: u285 :: u286 :: u287 :: u288 :: u289 :: u290 :: u291 :: u292 :: u293 :: u294 :: u295 :: u296 :: u297 :: u298 :: u299 :: u300 :: u301 :: u302 :: u303 :: u304 :: u305 :: u306 :: u307 :: u308 :: u309 :: u310 :: u311 :: u312 :: u313 :: u314 :: u315 :: u316 :: u317 :: u318 :: u319 :: u320 :: u321 :: u322 :: u323 :: u324 :: u325 :: u326 :: u327 :: u328 :: u329 :: u330 :: u331 :: u332 :: u333 :: u334 :: u335 :: u336 :: u337 :: u338 :: u339 :: u340 :: u341 :: u342 :: u343 :: u344 :: u345 :: u346 :: u347 :: u348 :: u349 :: u350 :: u351 :: []), []⟩ w') :
    Code.wp Try.prog pageRound Q ⟨List.toArray (u0 :: u1 :: u2 :: Value.pointer (some ⟨bk, 0, none⟩) :: u4 :: Value.pointer (some ⟨d, 0, none⟩) :: u6 :: Value.pointer (some ⟨bx, 0, none⟩) :: u8 :: Value.string ⟨(Pm.zeros 128).toArray⟩ :: Value.func (.func 6) #[] #[.pointer (some ⟨bx, 0, none⟩), .pointer (some ⟨bk, 0, none⟩)] :: u11 :: Value.int .i64 i :: Value.pointer (some ⟨bA, 0, none⟩) :: hv :: iv :: av :: ov :: u18 :: u19 :: u20 :: u21 :: u22 :: u23 :: u24 :: u25 :: u26 :: u27 :: u28 :: u29 :: u30 :: u31 :: u32 :: u33 :: u34 :: u35 :: u36 :: u37 :: u38 :: u39 :: u40 :: u41 :: u42 :: u43 :: u44 :: u45 :: u46 :: u47 :: u48 :: u49 :: u50 :: u51 :: u52 :: u53 :: u54 :: u55 :: u56 :: u57 :: u58 :: u59 :: u60 :: u61 :: u62 :: u63 :: u64 :: u65 :: u66 :: u67 :: u68 :: u69 :: u70 :: u71 :: u72 :: u73 :: u74 :: u75 :: u76 :: Value.int .i64 k :: u78 :: u79 :: u80 :: u81 :: u82 :: u83 :: u84 :: u85 :: u86 :: u87 :: u88 :: u89 :: u90 :: u91 :: u92 :: u93 :: u94 :: u95 :: u96 :: u97 :: u98 :: u99 :: u100 :: u101 :: u102 :: u103 :: u104 :: u105 :: u106 :: u107 :: u108 :: u109 :: u110 :: u111 :: u112 :: u113 :: u114 :: u115 :: u116 :: u117 :: u118 :: u119 :: u120 :: u121 :: u122 :: u123 :: u124 :: u125 :: u126 :: u127 :: u128 :: u129 :: u130 :: u131 :: u132 :: u133 :: u134 :: u135 :: u136 :: u137 :: u138 :: u139 :: u140 :: u141 :: u142 :: u143 :: u144 :: u145 :: u146 :: u147 :: u148 :: u149 :: u150 :: u151 :: u152 :: u153 :: u154 :: u155 :: u156 :: u157 :: u158 :: u159 :: u160 :: u161 :: u162 :: u163 :: u164 :: u165 :: u166 :: u167 :: u168 :: u169 :: u170 :: u171 :: u172 :: u173 :: u174 :: u175 :: u176 :: u177 :: u178 :: u179 :: u180 :: u181 :: u182 :: u183 :: u184 :: u185 :: u186 :: u187 :: u188 :: u189 :: u190 :: u191 :: u192 :: u193 :: u194 :: u195 :: u196 :: u197 :: u198 :: u199 :: u200 :: u201 :: u202 :: u203 :: u204 :: u205 :: u206 :: u207 :: u208 :: u209 :: u210 :: u211 :: u212 :: u213 :: u214 :: u215 :: u216 :: u217 :: u218 :: u219 :: u220 :: u221 :: u222 :: u223 :: u224 :: u225 :: u226 :: u227 :: u228 :: u229 :: u230 :: u231 :: u232 :: u233 :: u234 :: u235 :: u236 :: u237 :: u238 :: u239 :: u240 :: u241 :: u242 :: u243 :: u244 :: u245 :: u246 :: u247 :: u248 :: u249 :: u250 :: u251 :: u252 :: u253 :: u254 :: u255 :: u256 :: u257 :: u258 :: u259 :: u260 :: u261 :: u262 :: u263 :: u264 :: u265 :: u266 :: u267 :: u268 :: u269 :: u270 :: u271 :: u272 :: u273 :: u274 :: u275 :: u276 :: u277 :: u278 :: u279 :: u280 :: u281 :: u282 :: u283 :: u284 :: u285 :: u286 :: u287 :: u288 :: u289 :: u290 :: u291 :: u292 :: u293 :: u294 :: u295 :: u296 :: u297 :: u298 :: u299 :: u300 :: u301 :: u302 :: u303 :: u304 :: u305 :: u306 :: u307 :: u308 :: u309 :: u310 :: u311 :: u312 :: u313 :: u314 :: u315 :: u316 :: u317 :: u318 :: u319 :: u320 :: u321 :: u322 :: u323 :: u324 :: u325 :: u326 :: u327 :: u328 :: u329 :: u330 :: u331 :: u332 :: u333 :: u334 :: u335 :: u336 :: u337 :: u338 :: u339 :: u340 :: u341 :: u342 :: u343 :: u344 :: u345 :: u346 :: u347 :: u348 :: u349 :: u350 :: u351 :: []), []⟩ w := by
  conv => arg 2; whnf
  obtain ⟨ip, ic, rfl⟩ := hR.ids.shape
  replace hQ := Lib.hid hQ
  replace hQ5 := Lib.hid hQ5
  have hao := hR.quiet _ _ _ ha rfl (fun e => ha.ne_ hrow (by decide) e)
  have hac1 : w.cell? ⟨bA, 1, none⟩ = some (.int .u8 a1) := (hao.cell 1).trans hc1
  have hac2 : w.cell? ⟨bA, 2, none⟩ = some (.int .u8 a2) := (hao.cell 2).trans hc2
  have hac3 : w.cell? ⟨bA, 3, none⟩ = some (.int .u8 a3) := (hao.cell 3).trans hc3
  have hw1 : IntKind.i64.wrap (a1 : Int) = a1 := IntWalk.i64_in _ ⟨by omega, by omega⟩
  have hw2 : IntKind.i64.wrap (a2 : Int) = a2 := IntWalk.i64_in _ ⟨by omega, by omega⟩
  have hw3 : IntKind.i64.wrap (a3 : Int) = a3 := IntWalk.i64_in _ ⟨by omega, by omega⟩
  obtain ⟨q, hq⟩ : ∃ q, q = k * (1 + a2 % 3) := ⟨_, rfl⟩
  have hq2 : q ≤ 24 := by
    rw [hq]
    have h3 : 1 + a2 % 3 ≤ 3 := by omega
    have := Nat.mul_le_mul hk h3
    omega
  have hqe : (k : Int) * (1 + (a2 : Int) % 3) = (q : Int) := by rw [hq]; push_cast; rfl
  obtain ⟨p, hp⟩ : ∃ p, p = (a1 + q) % 13 := ⟨_, rfl⟩
  have hp12 : p ≤ 12 := by omega
  have hwq : IntKind.u32.wrap ((a1 : Int) + (q : Int)) = (a1 : Int) + (q : Int) := IntWalk.u32_in _ ⟨by omega, by omega⟩
  have hpe : ((a1 : Int) + (q : Int)) % 13 = (p : Int) := by rw [hp]; omega
  have HC := Lib.hid (contains_any ids p (.slice ip ids.length ic) w wS.heap.size hR.ids (by omega))
  have HRr := Lib.hid hR
  obtain ⟨b, hb⟩ : ∃ b, b = decide (p ∈ ids) := ⟨_, rfl⟩
  rw [← hb] at HC
  have HB := Lib.hid hb
  clear hR hq hp hb hao
  refine Go.wp_seq_k (fun K hK => ?_)
  replace hK := Lib.hid hK
  go_wp2_with fail
  refine hK.out _ _ ?_
  clear hK K
  refine Go.wp_seq_k (fun K hK => ?_)
  replace hK := Lib.hid hK
  go_wp2_with fail
  rw [hpe]
  refine hK.out _ _ ?_
  clear hK K hac1 hac2 hw1 hw2 hqe hwq hpe hq2
  refine Go.wp_seq_k (fun K hK => ?_)
  replace hK := Lib.hid hK
  go_wp2_with fail
  refine (HC.out).mono ?_
  rintro e w' ⟨rfl, rfl⟩
  cases b
  · have hpn : p ∉ ids := by simpa using HB.out.symm
    replace hpn := Lib.hid hpn
    clear hQ5 HC HB
    go_wp2_with fail
    refine hK.out _ _ ?_
    clear hK K
    have hwl : IntKind.u64.wrap ((i : Int) + 1) = (i : Int) + 1 := by rw [IntKind.wrap_u64]; omega
    have HREP := fun W => rep_r a3 W ha3
    replace HREP := Lib.hid HREP
    refine Go.wp_seq_k (fun K hK => ?_)
    replace hK := Lib.hid hK
    go_wp2_with fail
    refine (HREP.out _).mono ?_
    rintro e w1 ⟨rl, hrl, rfl, hb1⟩
    have hb2 := ba (Below.refl w1.heap.size w1) (.cells #[.string ⟨rl.toArray⟩] 9)
    have hR2 := (HRr.out.below hb1).below hb2
    have hPG := paged_any (p + 1) (i + 1) w1.heap.size rl (w1.alloc (.cells #[.string ⟨rl.toArray⟩] 9)) hrl ((Blk.newAt w1 9 #[.string ⟨rl.toArray⟩] rfl).cell 0) (by omega) (by omega)
    rw [show ((p + 1 : Nat) : Int) = (p : Int) + 1 by omega, show ((i + 1 : Nat) : Int) = (i : Int) + 1 by omega] at hPG
    replace hPG := Lib.hid hPG
    replace hR2 := Lib.hid hR2
    clear hb2 hb1 hrl HREP HRr
    go_wp2_with fail
    refine (hPG.out).mono ?_
    rintro e w3 ⟨pg, hpl, rfl, hb3⟩
    have hR3 := Lib.hid (hR2.out.below hb3)
    replace hpl := Lib.hid hpl
    clear hPG hR2 hb3 hac3 hw3 hwl
    go_wp2_with fail
    refine hK.out _ _ ?_
    clear hK K
    refine Go.wp_seq_k (fun K hK => ?_)
    refine law_parts base d bx gs bk p hv (.slice ip ids.length ic) av ov kv hs ids A O pg keep u w0 wS w3 _ hR3.out hpl.out hp12 hn8 hAO ?_
    intro y21 y108 y109 y110 y111 y112 y113 y114 y115 y116 y117 y118 y119 y120 y121 y122 y123 y124 y125 y126 y127 y128 y129 y130 y131 y132 y133 y134 y135 y136 y137 y138 y139 y140 y141 y142 y143 y144 y145 w4 av' ov' hR4
    refine hK _ _ ?_
    clear hK K hR3
    have hb5 := ba (Below.refl w4.heap.size w4) (.cells #[.int .u32 p] 37)
    have hR5 := hR4.below hb5
    have hI5 : (w4.alloc (.cells #[.int .u32 p] 37)).ownsRow wS.heap.size 37 1 (.slice ip ids.length ic) ids.length (ids.map idCell) := hR5.ids
    have hz5 := hR5.size
    obtain ⟨iz, z, hiz, hz, hz0, hz1, hz2⟩ := info37
    obtain ⟨jz, y, hjz, hy, hy0, hy1, hy2⟩ := info47
    clear hb5 hR4
    go_wp2_with (at_builtin; refine wpList_append_own _ rfl _ _ 34 rfl wS.heap.size 37 iz z 1 4 Try.underlying34 hiz hz hz0 hz1 hz2 (by decide) _ _ _ rfl hI5 ⟨w4.heap.size, 0, none⟩ 1 1 [.int .u32 p] rfl rfl ?c1 ?c2 ?c3 ?c4 ?c5 ?_)
    case c1 => exact one_new _ rfl
    case c2 =>
      intro x hx
      simp at hx
      subst hx
      rfl
    case c3 => unfold maxLen; omega
    case c4 => omega
    case c5 => exact hz5
    intro v6 w6 hown6 hgr6 _
    have hI6 : IdsAt wS.heap.size w6 v6 (ids ++ [p]) := by
      unfold IdsAt
      rw [List.length_append, List.map_append]
      exact hown6
    have hR6 := hR5.idsG hgr6 hI6
    clear hR5 hI5 hz5 hown6 hgr6 hI6
    have hb7 := ba (Below.refl w6.heap.size w6) (.cells #[.int .u32 p, .string ⟨pg.toArray⟩] 47)
    have hR7 := hR6.below hb7
    have hH7 : (w6.alloc (.cells #[.int .u32 p, .string ⟨pg.toArray⟩] 47)).ownsRow wS.heap.size 47 2 hv hs.length (hs.flatMap homeCells) := hR7.homes
    have hz7 := hR7.size
    have hNew := Blk.newAt w6 47 #[.int .u32 p, .string ⟨pg.toArray⟩] (g := w6.heap.size) rfl
    clear hR6 hb7
    go_wp2_with (at_builtin; refine wpList_append_own _ rfl _ _ 41 rfl wS.heap.size 47 jz y 2 24 Try.underlying41 hjz hy hy0 hy1 hy2 (by decide) _ _ _ rfl hH7 ⟨w6.heap.size, 0, none⟩ 1 1 [.int .u32 p, .string ⟨pg.toArray⟩] rfl rfl ?c1 ?c2 ?c3 ?c4 ?c5 ?_)
    case c1 =>
      intro j x hx
      rw [Addr.add_mid, Nat.zero_add, hNew.cell, ← hx]
      simp
    case c2 =>
      intro x hx
      simp at hx
      rcases hx with rfl | rfl <;> rfl
    case c3 => unfold maxLen; omega
    case c4 => omega
    case c5 => exact hz7
    intro v8 w8 hown8 hgr8 _
    have hH8 : HomesAt wS.heap.size w8 v8 (hs ++ [(p, pg)]) := by
      unfold HomesAt
      rw [List.length_append, List.flatMap_append]
      exact hown8
    have hR8 := Lib.hid (hR7.homesG hgr8 hH8)
    clear hR7 hH7 hz7 hown8 hgr8 hH8 hNew
    go_wp2_with fail
    exact hQ.out _ _ _ _ _ _ _ _ _ _ _ _ _ _ _ _ _ _ _ _ _ _ _ _ _ _ _ _ _ _ _ _ _ _ _ _ _ _ _ _ _ _ _ _ _ _ _ _ _ _ _ _ _ _ _ _ _ _ _ _ _ _ _ _ _ _ _ _ _ _ _ _ _ _ _ _ _ _ _ _ _ w8 v8 v6 av' ov' p pg hpn.out hp12 hpl.out hR8.out
  · have hpn : p ∈ ids := by simpa using HB.out.symm
    replace hpn := Lib.hid hpn
    clear hQ HC HB
    go_wp2_with fail
    exact hQ5.out _ _ _ _ _ _ _ _ _ _ _ _ _ _ _ _ _ _ _ p hpn.out
end Go.Proofs.Ytkbjmgenceghlaa
