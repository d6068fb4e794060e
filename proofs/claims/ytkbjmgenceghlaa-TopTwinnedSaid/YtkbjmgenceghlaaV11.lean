/- A round over the acts, whole. -/
import Derived.Test.YtkbjmgenceghlaaV8
import Derived.Test.YtkbjmgenceghlaaV10
namespace Go.Proofs.Ytkbjmgenceghlaa
open Go.RowKit
attribute [local go_sem ↓] Go.wp_at_zero Go.wp_at_succ
namespace Pm
theorem areaOf_add (L : List (Nat × List UInt8)) (x : Nat × List UInt8) : areaOf (L ++ [x]) = areaOf L ++ [(L.length, x.2)] := by
  unfold areaOf
  simp [List.zipIdx_append]
theorem homeW_add (bs : Nat) (L : List (Nat × List UInt8)) (x : Nat × List UInt8) : homeW bs (L ++ [x]) = homeW bs L ++ pageW bs x 4 := by
  unfold homeW
  simp
/-- pages a round may write -/
structure Few (L : List (Nat × List UInt8)) (k : Nat) : Prop where
  le : L.length ≤ k
  pos : 0 < k → 0 < L.length
  nd : (L.map (·.1)).Nodup
  num : ∀ x ∈ L, x.1 ≤ 12
  len : ∀ x ∈ L, x.2.length = 512
theorem Few.more {L : List (Nat × List UInt8)} {k p : Nat} {pg : List UInt8} (h : Few L k) (hp : p ∉ L.map (·.1)) (h12 : p ≤ 12) (hl : pg.length = 512) : Few (L ++ [(p, pg)]) (k + 1) := by
  refine ⟨by have := h.le; simp; omega, fun _ => by simp, ?_, ?_, ?_⟩
  · rw [List.map_append, List.nodup_append]
    refine ⟨h.nd, by simp, fun a ha b hb => ?_⟩
    simp only [List.map_cons, List.map_nil, List.mem_singleton] at hb
    subst hb
    intro e
    subst e
    exact hp ha
  · intro x hx
    rcases List.mem_append.1 hx with hx | hx
    · exact h.num x hx
    · simp at hx; subst hx; exact h12
  · intro x hx
    rcases List.mem_append.1 hx with hx | hx
    · exact h.len x hx
    · simp at hx; subst hx; exact hl
theorem Few.same {L : List (Nat × List UInt8)} {k p : Nat} (h : Few L k) (hp : p ∈ L.map (·.1)) : Few L (k + 1) :=
  ⟨by have := h.le; omega, fun _ => by cases L with | nil => simp at hp | cons => simp, h.nd, h.num, h.len⟩
end Pm
set_option maxRecDepth 1000000 in
set_option maxHeartbeats 8000000 in
theorem law_act {u0 u1 u2 u4 u6 u8 u12 u13 u14 u15 u16 u17 u18 u19 u20 u21 u22 u23 u24 u25 u26 u27 u28 u29 u30 u31 u32 u33 u34 u35 u36 u37 u38 u39 u40 u41 u42 u43 u44 u45 u46 u47 u48 u49 u50 u51 u52 u53 u54 u55 u56 u57 u58 u59 u60 u61 u62 u63 u64 u66 u68 u69 u70 u71 u72 u73 u74 u75 u76 u77 u78 u79 u80 u81 u82 u83 u84 u85 u86 u87 u88 u89 u90 u91 u92 u93 u94 u95 u96 u97 u98 u99 u100 u101 u102 u103 u104 u105 u106 u107 u108 u109 u110 u111 u112 u113 u114 u115 u116 u117 u118 u119 u120 u121 u122 u123 u124 u125 u126 u127 u128 u129 u130 u131 u132 u133 u134 u135 u136 u137 u138 u139 u140 u141 u142 u143 u144 u145 u146 u147 u148 u149 u150 u151 u152 u153 u154 u155 u156 u157 u158 u159 u160 u161 u162 u163 u164 u165 u166 u167 u168 u169 u170 u171 u172 u173 u174 u175 u176 u177 u178 u179 u180 u181 u182 u183 u184 u185 u186 u187 u188 u189 u190 u191 u192 u193 u194 u195 u196 u197 u198 u199 u200 u201 u202 u203 u204 u205 u206 u207 u208 u209 u210 u211 u212 u213 u214 u215 u216 u217 u218 u219 u220 u221 u222 u223 u224 u225 u226 u227 u228 u229 u230 u231 u232 u233 u234 u235 u236 u237 u238 u239 u240 u241 u242 u243 u244 u245 u246 u247 u248 u249 u250 u251 u252 u253 u254 u255 u256 u257 u258 u259 u260 u261 u262 u263 u264 u265 u266 u267 u268 u269 u270 u271 u272 u273 u274 u275 u276 u277 u278 u279 u280 u281 u282 u283 u284 u285 u286 u287 u288 u289 u290 u291 u292 u293 u294 u295 u296 u297 u298 u299 u300 u301 u302 u303 u304 u305 u306 u307 u308 u309 u310 u311 u312 u313 u314 u315 u316 u317 u318 u319 u320 u321 u322 u323 u324 u325 u326 u327 u328 u329 u330 u331 u332 u333 u334 u335 u336 u337 u338 u339 u340 u341 u342 u343 u344 u345 u346 u347 u348 u349 u350 u351 : Value} (base d bx gs bk al ao an acp i a0 a1 a2 a3 a4 : Nat) (kv : Value) (keep : List Bool) (u : List (List UInt8)) (w0 w : World) (Q : Exit → Act → World → Prop)
    (hL : LawAt base w0 w d bx gs bk kv keep ⟨u, [], -1⟩ u) (hG : Pm.Good u []) (hz : Pm.sec u 2 = Pm.zeros 128) (hi : i < an) (han : an ≤ 100) (hkl : keep.length ≤ 9223372036854775807)
    (h0 : w.cell? ⟨al, ao + i * 5, none⟩ = some (.int .u8 a0)) (h1 : w.cell? ⟨al, ao + i * 5 + 1, none⟩ = some (.int .u8 a1)) (h2 : w.cell? ⟨al, ao + i * 5 + 2, none⟩ = some (.int .u8 a2)) (h3 : w.cell? ⟨al, ao + i * 5 + 3, none⟩ = some (.int .u8 a3)) (h4 : w.cell? ⟨al, ao + i * 5 + 4, none⟩ = some (.int .u8 a4)) (b0 : a0 ≤ 255) (b1 : a1 ≤ 255) (b2 : a2 ≤ 255) (b3 : a3 ≤ 255) (b4 : a4 ≤ 255)
    (hQ : ∀ (v4 v12 v13 v14 v15 v16 v17 v18 v19 v20 v21 v22 v23 v24 v25 v26 v28 v29 v30 v31 v32 v33 v34 v35 v36 v69 v70 v71 v72 v73 v74 v75 v76 v77 v78 v79 v80 v81 v82 v83 v84 v85 v86 v87 v88 v89 v90 v91 v92 v93 v94 v95 v96 v97 v98 v99 v100 v101 v102 v103 v104 v105 v106 v107 v108 v109 v110 v111 v112 v113 v114 v115 v116 v117 v118 v119 v120 v121 v122 v123 v124 v125 v126 v127 v128 v129 v130 v131 v132 v133 v134 v135 v136 v137 v138 v139 v140 v141 v142 v143 v144 v145 v146 v147 v148 v149 v150 v151 v152 v153 v154 v155 v156 v157 v158 v159 v160 v161 v162 v163 v164 v165 v166 v167 v168 v169 v170 v171 v172 v173 v174 v175 v176 v177 v178 v179 v180 v181 v182 v183 v184 v185 v186 v187 v188 v189 v190 v191 v192 v193 v194 v195 v196 v197 v198 v199 v200 v201 v202 v203 v204 v205 v206 v207 v208 v209 v210 v211 v212 v213 v214 v215 v216 v217 v218 v219 v220 v221 v222 v223 v224 v225 v226 v227 v228 v229 v230 v231 v232 v233 v234 v235 v236 v237 v238 v239 v240 v241 v242 v243 v244 v245 v246 v247 v248 v249 v250 v251 v252 v253 v254 v255 v256 v257 v258 v259 v260 v261 v262 v263 v264 v265 v266 v267 v268 v269 v270 v271 v272 v273 v274 v275 v276 v277 v278 v279 v280 v281 v282 v283 v284 v285 v286 v287 v288 v289 v290 v291 v292 v293 v294 v295 v296 v297 v298 v299 v300 v301 v302 v303 v304 v305 v306 v307 v308 v309 v310 v311 v312 v313 v314 v315 v316 v317 v318 v319 v320 v321 v322 : Value) (w' : World) (u' : List (List UInt8)), Pm.Good u' [] → Pm.sec u' 2 = Pm.zeros 128 → LawAt base w0 w' d bx gs bk kv keep ⟨u', [], -1⟩ u' → Quiet gs w w' → Q .normal ⟨List.toArray (u0 :: u1 :: u2 :: Value.pointer (some ⟨bk, 0, none⟩) :: v4 :: Value.pointer (some ⟨d, 0, none⟩) :: u6 :: Value.pointer (some ⟨bx, 0, none⟩) :: u8 :: Value.string ⟨(Pm.zeros 128).toArray⟩ :: Value.func (.func 6) #[] #[.pointer (some ⟨bx, 0, none⟩), .pointer (some ⟨bk, 0, none⟩)] :: Value.func (.func 7) #[] #[] :: v12 :: v13 :: v14 :: v15 :: v16 :: v17 :: v18 :: v19 :: v20 :: v21 :: v22 :: v23 :: v24 :: v25 :: v26 :: u27 :: v28 :: v29 :: v30 :: v31 :: v32 :: v33 :: v34 :: v35 :: v36 :: u37 :: u38 :: u39 :: u40 :: u41 :: u42 :: u43 :: u44 :: u45 :: u46 :: u47 :: u48 :: u49 :: u50 :: u51 :: u52 :: u53 :: u54 :: u55 :: u56 :: u57 :: u58 :: u59 :: u60 :: u61 :: u62 :: u63 :: u64 :: Value.slice (some ⟨al, ao, none⟩) an acp :: u66 :: Value.int .i64 i :: u68 :: v69 :: v70 :: v71 :: v72 :: v73 :: v74 :: v75 :: v76 :: v77 :: v78 :: v79 :: v80 :: v81 :: v82 :: v83 :: v84 :: v85 :: v86 :: v87 :: v88 :: v89 :: v90 :: v91 :: v92 :: v93 :: v94 :: v95 :: v96 :: v97 :: v98 :: v99 :: v100 :: v101 :: v102 :: v103 :: v104 :: v105 :: v106 :: v107 :: v108 :: v109 :: v110 :: v111 :: v112 :: v113 :: v114 :: v115 :: v116 :: v117 :: v118 :: v119 :: v120 :: v121 :: v122 :: v123 :: v124 :: v125 :: v126 :: v127 :: v128 :: v129 :: v130 :: v131 :: v132 :: v133 :: v134 :: v135 :: v136 :: v137 :: v138 :: v139 :: v140 :: v141 :: v142 :: v143 :: v144 :: v145 :: v146 :: v147 :: v148 :: v149 :: v150 :: v151 :: v152 :: v153 :: v154 :: v155 :: v156 :: v157 :: v158 :: v159 :: v160 :: v161 :: v162 :: v163 :: v164 :: v165 :: v166 :: v167 :: v168 :: v169 :: v170 :: v171 :: v172 :: v173 :: v174 :: v175 :: v176 :: v177 :: v178 :: v179 :: v180 :: v181 :: v182 :: v183 :: v184 :: v185 :: v186 :: v187 :: v188 :: v189 :: v190 :: v191 :: v192 :: v193 :: v194 :: v195 :: v196 :: v197 :: v198 :: v199 :: v200 :: v201 :: v202 :: v203 :: v204 :: v205 :: v206 :: v207 :: v208 :: v209 :: v210 :: v211 :: v212 :: v213 :: v214 :: v215 :: v216 :: v217 :: v218 :: v219 :: v220 :: v221 :: v222 :: v223 :: v224 :: v225 :: v226 :: v227 :: v228 :: v229 :: v230 :: v231 :: v232 :: v233 :: v234 :: v235 :: v236 :: v237 :: v238 :: v239 :: v240 :: v241 :: v242 :: v243 :: v244 :: v245 :: v246 :: v247 :: v248 :: v249 :: v250 :: v251 :: v252 :: v253 :: v254 :: v255 :: v256 :: v257 :: v258 :: v259 :: v260 :: v261 :: v262 :: v263 :: v264 :: v265 :: v266 :: v267 :: v268 :: v269 :: v270 :: v271 :: v272 :: v273 :: v274 :: v275 :: v276 :: v277 :: v278 :: v279 :: v280 :: v281 :: v282 :: v283 :: v284 :: v285 :: v286 :: v287 :: v288 :: v289 :: v290 :: v291 :: v292 :: v293 :: v294 :: v295 :: v296 :: v297 :: v298 :: v299 :: v300 :: v301 :: v302 :: v303 :: v304 :: v305 :: v306 :: v307 :: v308 :: v309 :: v310 :: v311 :: v312 :: v313 :: v314 :: v315 :: v316 :: v317 :: v318 :: v319 :: v320 :: v321 :: v322 :: u323 :: u324 :: u325 :: u326 :: u327 :: u328 :: u329 :: u330 :: u331 :: u332 :: u333 :: u334 :: u335 :: u336 :: u337 :: u338 :: u339 :: u340 :: u341 :: u342 :: u343 :: u344 :: u345 :: u346 :: u347 :: u348 :: u349 :: u350 :: u351 :: []), []⟩ w') :
    Code.wp Try.prog (lawRound) Q ⟨List.toArray (u0 :: u1 :: u2 :: Value.pointer (some ⟨bk, 0, none⟩) :: u4 :: Value.pointer (some ⟨d, 0, none⟩) :: u6 :: Value.pointer (some ⟨bx, 0, none⟩) :: u8 :: Value.string ⟨(Pm.zeros 128).toArray⟩ :: Value.func (.func 6) #[] #[.pointer (some ⟨bx, 0, none⟩), .pointer (some ⟨bk, 0, none⟩)] :: Value.func (.func 7) #[] #[] :: u12 :: u13 :: u14 :: u15 :: u16 :: u17 :: u18 :: u19 :: u20 :: u21 :: u22 :: u23 :: u24 :: u25 :: u26 :: u27 :: u28 :: u29 :: u30 :: u31 :: u32 :: u33 :: u34 :: u35 :: u36 :: u37 :: u38 :: u39 :: u40 :: u41 :: u42 :: u43 :: u44 :: u45 :: u46 :: u47 :: u48 :: u49 :: u50 :: u51 :: u52 :: u53 :: u54 :: u55 :: u56 :: u57 :: u58 :: u59 :: u60 :: u61 :: u62 :: u63 :: u64 :: Value.slice (some ⟨al, ao, none⟩) an acp :: u66 :: Value.int .i64 i :: u68 :: u69 :: u70 :: u71 :: u72 :: u73 :: u74 :: u75 :: u76 :: u77 :: u78 :: u79 :: u80 :: u81 :: u82 :: u83 :: u84 :: u85 :: u86 :: u87 :: u88 :: u89 :: u90 :: u91 :: u92 :: u93 :: u94 :: u95 :: u96 :: u97 :: u98 :: u99 :: u100 :: u101 :: u102 :: u103 :: u104 :: u105 :: u106 :: u107 :: u108 :: u109 :: u110 :: u111 :: u112 :: u113 :: u114 :: u115 :: u116 :: u117 :: u118 :: u119 :: u120 :: u121 :: u122 :: u123 :: u124 :: u125 :: u126 :: u127 :: u128 :: u129 :: u130 :: u131 :: u132 :: u133 :: u134 :: u135 :: u136 :: u137 :: u138 :: u139 :: u140 :: u141 :: u142 :: u143 :: u144 :: u145 :: u146 :: u147 :: u148 :: u149 :: u150 :: u151 :: u152 :: u153 :: u154 :: u155 :: u156 :: u157 :: u158 :: u159 :: u160 :: u161 :: u162 :: u163 :: u164 :: u165 :: u166 :: u167 :: u168 :: u169 :: u170 :: u171 :: u172 :: u173 :: u174 :: u175 :: u176 :: u177 :: u178 :: u179 :: u180 :: u181 :: u182 :: u183 :: u184 :: u185 :: u186 :: u187 :: u188 :: u189 :: u190 :: u191 :: u192 :: u193 :: u194 :: u195 :: u196 :: u197 :: u198 :: u199 :: u200 :: u201 :: u202 :: u203 :: u204 :: u205 :: u206 :: u207 :: u208 :: u209 :: u210 :: u211 :: u212 :: u213 :: u214 :: u215 :: u216 :: u217 :: u218 :: u219 :: u220 :: u221 :: u222 :: u223 :: u224 :: u225 :: u226 :: u227 :: u228 :: u229 :: u230 :: u231 :: u232 :: u233 :: u234 :: u235 :: u236 :: u237 :: u238 :: u239 :: u240 :: u241 :: u242 :: u243 :: u244 :: u245 :: u246 :: u247 :: u248 :: u249 :: u250 :: u251 :: u252 :: u253 :: u254 :: u255 :: u256 :: u257 :: u258 :: u259 :: u260 :: u261 :: u262 :: u263 :: u264 :: u265 :: u266 :: u267 :: u268 :: u269 :: u270 :: u271 :: u272 :: u273 :: u274 :: u275 :: u276 :: u277 :: u278 :: u279 :: u280 :: u281 :: u282 :: u283 :: u284 :: u285 :: u286 :: u287 :: u288 :: u289 :: u290 :: u291 :: u292 :: u293 :: u294 :: u295 :: u296 :: u297 :: u298 :: u299 :: u300 :: u301 :: u302 :: u303 :: u304 :: u305 :: u306 :: u307 :: u308 :: u309 :: u310 :: u311 :: u312 :: u313 :: u314 :: u315 :: u316 :: u317 :: u318 :: u319 :: u320 :: u321 :: u322 :: u323 :: u324 :: u325 :: u326 :: u327 :: u328 :: u329 :: u330 :: u331 :: u332 :: u333 :: u334 :: u335 :: u336 :: u337 :: u338 :: u339 :: u340 :: u341 :: u342 :: u343 :: u344 :: u345 :: u346 :: u347 :: u348 :: u349 :: u350 :: u351 :: []), []⟩ w := by
  conv => arg 2; whnf
  replace hQ := Lib.hid hQ
  replace hG := Lib.hid hG
  replace hz := Lib.hid hz
  replace hL := Lib.hid hL
  have hi100 : i ≤ 100 := by omega
  refine Go.wp_seq_k (fun K hK => ?_)
  replace hK := Lib.hid hK
  go_wp2_with fail
  refine hK.out _ _ ?_
  clear hK K h0 h1 h2 h3 h4
  have ha := Blk.newAt w 40 #[.int .u8 a0, .int .u8 a1, .int .u8 a2, .int .u8 a3, .int .u8 a4] (g := w.heap.size) rfl
  have hb := ba (Below.refl w.heap.size w) (.cells #[.int .u8 a0, .int .u8 a1, .int .u8 a2, .int .u8 a3, .int .u8 a4] 40)
  have hL1 := hL.out.after hb
  have q0 : Quiet gs w _ := Quiet.below hb
  have hbw : base ≤ (w.alloc (.cells #[.int .u8 a0, .int .u8 a1, .int .u8 a2, .int .u8 a3, .int .u8 a4] 40)).heap.size := Nat.le_trans hL.out.hbw hb.size
  generalize w.alloc (.cells #[.int .u8 a0, .int .u8 a1, .int .u8 a2, .int .u8 a3, .int .u8 a4] 40) = wS at *
  generalize w.heap.size = bA at *
  clear hb hL
  refine Go.wp_seq_k (fun K hK => ?_)
  replace hK := Lib.hid hK
  go_wp2_with fail
  refine hK.out _ _ ?_
  clear hK K
  refine Go.wp_seq_k (fun K hK => ?_)
  replace hK := Lib.hid hK
  go_wp2_with fail
  refine hK.out _ _ ?_
  clear hK K
  refine Go.wp_seq_k (fun K hK => ?_)
  replace hK := Lib.hid hK
  go_wp2_with fail
  refine hK.out _ _ ?_
  clear hK K
  have hac2 : wS.cell? ⟨bA, 2, none⟩ = some (.int .u8 a2) := ha.cell 2
  have hw2 : IntKind.i64.wrap ((a2 : Int) % 8) = (a2 : Int) % 8 := IntWalk.i64_in _ ⟨by omega, by omega⟩
  obtain ⟨n, hn⟩ : ∃ n, n = 1 + a2 % 8 := ⟨_, rfl⟩
  have hne : 1 + (a2 : Int) % 8 = (n : Int) := by rw [hn]; omega
  have hn8 : 1 ≤ n ∧ n ≤ 8 := by omega
  have hrow := Lib.hid hL1.sure.row
  have hH0 : HRows base w0 wS wS d bx gs bk kv keep u (.slice none 0 0) (.slice none 0 0) (.slice none 0 0) (.slice none 0 0) [] [] [] [] := ⟨hL1, Quiet.refl _ _, hbw, Nat.le_refl _, World.ownsRow_nil _ _ _ _, World.ownsRow_nil _ _ _ _, World.ownsRow_nil _ _ _ _, World.ownsRow_nil _ _ _ _, fun g hg => by simp [Value.ownBlock] at hg⟩
  have ha1 : (#[Value.int .u8 a0, .int .u8 a1, .int .u8 a2, .int .u8 a3, .int .u8 a4] : Array Value)[1]? = some (.int .u8 a1) := rfl
  have ha2 : (#[Value.int .u8 a0, .int .u8 a1, .int .u8 a2, .int .u8 a3, .int .u8 a4] : Array Value)[2]? = some (.int .u8 a2) := rfl
  have ha3 : (#[Value.int .u8 a0, .int .u8 a1, .int .u8 a2, .int .u8 a3, .int .u8 a4] : Array Value)[3]? = some (.int .u8 a3) := rfl
  have ha0 : (#[Value.int .u8 a0, .int .u8 a1, .int .u8 a2, .int .u8 a3, .int .u8 a4] : Array Value)[0]? = some (.int .u8 a0) := rfl
  have ha4 : (#[Value.int .u8 a0, .int .u8 a1, .int .u8 a2, .int .u8 a3, .int .u8 a4] : Array Value)[4]? = some (.int .u8 a4) := rfl
  generalize (#[Value.int .u8 a0, .int .u8 a1, .int .u8 a2, .int .u8 a3, .int .u8 a4] : Array Value) = acs at *
  replace ha0 := Lib.hid ha0
  replace ha1 := Lib.hid ha1
  replace ha2 := Lib.hid ha2
  replace ha3 := Lib.hid ha3
  replace ha4 := Lib.hid ha4
  clear hL1 hn hbw
  refine Go.wp_seq_k (fun K hK => ?_)
  replace hK := Lib.hid hK
  go_wp2_with fail
  try rw [hne]
  clear hac2 hw2 hne
  go_loopw [14, 15, 16, 17, 77] (fun v14 v15 v16 v17 kk wr => ∃ k : Nat, k ≤ n ∧ kk = .int .i64 k ∧ ∃ L : List (Nat × List UInt8), Pm.Few L k ∧ HRows base w0 wS wr d bx gs bk kv keep u v14 v15 v16 v17 L (L.map (·.1)) (Pm.homeW 3 (Pm.areaOf L)) (Pm.homeW 35 L)) (fun _ _ _ _ kk _ => n - (intOf kk).toNat)
  case atStart => exact ⟨0, by omega, rfl, [], ⟨by simp, by omega, by simp, by simp, by simp⟩, hH0⟩
  case round =>
    clear hH0
    obtain ⟨wo, rfl⟩ : ∃ wo : World, wo = wr := ⟨_, rfl⟩
    obtain ⟨k, hk, rfl, L, hF, hR⟩ := hrel
    by_cases hkn : k < n
    · have hLk : L.length ≤ 8 := by have := hF.le; omega
      replace hF := Lib.hid hF
      go_upto_block 5 with fail
      refine Go.wp_block ?_
      refine law_page base d bx gs bk bA i k a1 a2 a3 acs u14 u15 u16 u17 kv L (L.map (·.1)) _ _ keep u w0 wS wo _ hR hi100 (by omega) (by simpa using hLk) hLk (by rw [Pm.homeW_len, Pm.homeW_len, Pm.areaOf_len]; omega) ha hrow.out ha1.out ha2.out ha3.out b1 b2 b3 ?_ ?_
      · intro y18 y19 y79 y80 y81 y82 y83 y84 y85 y86 y87 y88 y89 y90 y91 y92 y93 y94 y95 p hp
        simp only [Exit.inBlock, Exit.then]
        have hF2 := Lib.hid (hF.out.same hp)
        clear hF
        replace hR := Lib.hid hR
        go_wp2_with fail
        go_roundw
        case rel => exact ⟨k + 1, by omega, by go_num, L, hF2.out, hR.out⟩
        case measure => simp [intOf]; omega
      · intro y18 y19 y20 y21 y79 y80 y81 y82 y83 y84 y85 y86 y87 y88 y89 y90 y91 y92 y93 y94 y95 y96 y97 y98 y99 y100 y101 y102 y103 y104 y105 y106 y107 y108 y109 y110 y111 y112 y113 y114 y115 y116 y117 y118 y119 y120 y121 y122 y123 y124 y125 y126 y127 y128 y129 y130 y131 y132 y133 y134 y135 y136 y137 y138 y139 y140 y141 y142 y143 y144 y145 y146 y147 y148 y149 y150 y151 y152 y153 y154 y155 w2 hv' iv' av' ov' p pg hp h12 hpl hR2
        simp only [Exit.inBlock, Exit.then]
        have hF2 := Lib.hid (hF.out.more hp h12 hpl)
        have hR3 : HRows base w0 wS w2 d bx gs bk kv keep u hv' iv' av' ov' (L ++ [(p, pg)]) ((L ++ [(p, pg)]).map (·.1)) (Pm.homeW 3 (Pm.areaOf (L ++ [(p, pg)]))) (Pm.homeW 35 (L ++ [(p, pg)])) := by
          rw [Pm.areaOf_add, Pm.homeW_add, Pm.homeW_add, List.map_append]
          simpa using hR2
        replace hR3 := Lib.hid hR3
        clear hF hp h12 hpl hR2 hR
        go_wp2_with fail
        go_roundw
        case rel => exact ⟨k + 1, by omega, by go_num, L ++ [(p, pg)], hF2.out, hR3.out⟩
        case measure => simp [intOf]; omega
    · obtain rfl : k = n := by omega
      have hpos := hF.pos (by omega)
      have hle := hF.le
      replace hF := Lib.hid hF
      replace hR := Lib.hid hR
      go_wp2_with fail
      refine hK.out _ _ ?_
      clear hK
      have hao := hR.out.quiet _ _ _ ha rfl (fun e => ha.ne_ hrow.out (by decide) e)
      refine law_write base d bx gs bk bA a0 a4 acs u14 u15 u16 u17 kv L keep u w0 wo Q hR.out.law ⟨hG.out.len, hG.out.secs, .inl hz.out⟩ (owns_down hR.out.homes hR.out.base_le) (owns_down hR.out.ids hR.out.base_le) (CRow.zero hR.out.area) (CRow.zero hR.out.own) (by omega) (by omega) hF.out.len hF.out.num hF.out.nd hkl hao ha0.out b0 ha4.out b4 ?_
      intro z4 z22 z23 z24 z25 z26 z28 z29 z30 z31 z32 z33 z34 z35 z36 z157 z158 z159 z160 z161 z162 z163 z164 z165 z166 z167 z168 z169 z170 z171 z172 z173 z174 z175 z176 z177 z178 z179 z180 z181 z182 z183 z184 z185 z186 z187 z188 z189 z190 z191 z192 z193 z194 z195 z196 z197 z198 z199 z200 z201 z202 z203 z204 z205 z206 z207 z208 z209 z210 z211 z212 z213 z214 z215 z216 z217 z218 z219 z220 z221 z222 z223 z224 z225 z226 z227 z228 z229 z230 z231 z232 z233 z234 z235 z236 z237 z238 z239 z240 z241 z242 z243 z244 z245 z246 z247 z248 z249 z250 z251 z252 z253 z254 z255 z256 z257 z258 z259 z260 z261 z262 z263 z264 z265 z266 z267 z268 z269 z270 z271 z272 z273 z274 z275 z276 z277 z278 z279 z280 z281 z282 z283 z284 z285 z286 z287 z288 z289 z290 z291 z292 z293 z294 z295 z296 z297 z298 z299 z300 z301 z302 z303 z304 z305 z306 z307 z308 z309 z310 z311 z312 z313 z314 z315 z316 z317 z318 z319 z320 z321 z322 w3 u3 hG3 hz3 hL3 q3
      exact hQ.out _ _ _ _ _ _ _ _ _ _ _ _ _ _ _ _ _ _ _ _ _ _ _ _ _ _ _ _ _ _ _ _ _ _ _ _ _ _ _ _ _ _ _ _ _ _ _ _ _ _ _ _ _ _ _ _ _ _ _ _ _ _ _ _ _ _ _ _ _ _ _ _ _ _ _ _ _ _ _ _ _ _ _ _ _ _ _ _ _ _ _ _ _ _ _ _ _ _ _ _ _ _ _ _ _ _ _ _ _ _ _ _ _ _ _ _ _ _ _ _ _ _ _ _ _ _ _ _ _ _ _ _ _ _ _ _ _ _ _ _ _ _ _ _ _ _ _ _ _ _ _ _ _ _ _ _ _ _ _ _ _ _ _ _ _ _ _ _ _ _ _ _ _ _ _ _ _ _ _ _ _ _ _ _ _ _ _ _ _ _ _ _ _ _ _ _ _ _ _ _ _ _ _ _ _ _ _ _ _ _ _ _ _ _ _ _ _ _ _ _ _ _ _ _ _ _ _ _ _ _ _ _ _ _ _ _ _ _ _ _ _ _ _ _ _ _ _ _ _ _ _ _ _ _ _ _ _ _ _ _ _ _ _ _ _ _ _ _ _ _ _ _ _ _ _ _ _ _ _ w3 u3 ⟨hG3.len, hG3.secs, .inl hz3⟩ hz3 hL3 ((q0.trans hR.out.quiet).trans q3)
end Go.Proofs.Ytkbjmgenceghlaa
