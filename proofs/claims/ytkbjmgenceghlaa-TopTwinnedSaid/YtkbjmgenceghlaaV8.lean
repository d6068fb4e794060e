/- A round over the acts, from the calls on. -/
import Derived.Test.YtkbjmgenceghlaaV5
import Derived.Test.YtkbjmgenceghlaaV7
namespace Go.Proofs.Ytkbjmgenceghlaa
open Go.RowKit
attribute [local go_sem ↓] Go.wp_at_zero Go.wp_at_succ
theorem writeCalls_len (L : List (Nat × List UInt8)) : (Pm.writeCalls 2 35 L).length = L.length * 8 + 6 := by
  unfold Pm.writeCalls
  simp only [List.length_append, Pm.homeW_len, List.length_cons, List.length_nil]
  have : (Pm.areaOf L).length = L.length := by unfold Pm.areaOf; simp
  omega
set_option maxRecDepth 1000000 in
set_option maxHeartbeats 8000000 in
theorem law_write {u0 u1 u2 u4 u6 u8 u12 u18 u19 u20 u21 u22 u23 u24 u25 u26 u27 u28 u29 u30 u31 u32 u33 u34 u35 u36 u37 u38 u39 u40 u41 u42 u43 u44 u45 u46 u47 u48 u49 u50 u51 u52 u53 u54 u55 u56 u57 u58 u59 u60 u61 u62 u63 u64 u65 u66 u67 u68 u69 u70 u71 u72 u73 u74 u75 u76 u77 u78 u79 u80 u81 u82 u83 u84 u85 u86 u87 u88 u89 u90 u91 u92 u93 u94 u95 u96 u97 u98 u99 u100 u101 u102 u103 u104 u105 u106 u107 u108 u109 u110 u111 u112 u113 u114 u115 u116 u117 u118 u119 u120 u121 u122 u123 u124 u125 u126 u127 u128 u129 u130 u131 u132 u133 u134 u135 u136 u137 u138 u139 u140 u141 u142 u143 u144 u145 u146 u147 u148 u149 u150 u151 u152 u153 u154 u155 u156 u157 u158 u159 u160 u161 u162 u163 u164 u165 u166 u167 u168 u169 u170 u171 u172 u173 u174 u175 u176 u177 u178 u179 u180 u181 u182 u183 u184 u185 u186 u187 u188 u189 u190 u191 u192 u193 u194 u195 u196 u197 u198 u199 u200 u201 u202 u203 u204 u205 u206 u207 u208 u209 u210 u211 u212 u213 u214 u215 u216 u217 u218 u219 u220 u221 u222 u223 u224 u225 u226 u227 u228 u229 u230 u231 u232 u233 u234 u235 u236 u237 u238 u239 u240 u241 u242 u243 u244 u245 u246 u247 u248 u249 u250 u251 u252 u253 u254 u255 u256 u257 u258 u259 u260 u261 u262 u263 u264 u265 u266 u267 u268 u269 u270 u271 u272 u273 u274 u275 u276 u277 u278 u279 u280 u281 u282 u283 u284 u285 u286 u287 u288 u289 u290 u291 u292 u293 u294 u295 u296 u297 u298 u299 u300 u301 u302 u303 u304 u305 u306 u307 u308 u309 u310 u311 u312 u313 u314 u315 u316 u317 u318 u319 u320 u321 u322 u323 u324 u325 u326 u327 u328 u329 u330 u331 u332 u333 u334 u335 u336 u337 u338 u339 u340 u341 u342 u343 u344 u345 u346 u347 u348 u349 u350 u351 : Value} (base d bx gs bk bA a0 a4 : Nat) (acs : Array Value) (hv iv av ov kv : Value) (L : List (Nat × List UInt8)) (keep : List Bool) (u : List (List UInt8)) (w0 w : World) (Q : Exit → Act → World → Prop)
    (hL : LawAt base w0 w d bx gs bk kv keep ⟨u, [], -1⟩ u) (hG : Pm.Good u (L.map (·.1))) (hH : HomesAt base w hv L) (hI : IdsAt base w iv (L.map (·.1))) (hA : CRow 0 w av (Pm.homeW 3 (Pm.areaOf L))) (hO : CRow 0 w ov (Pm.homeW 35 L)) (hn1 : 1 ≤ L.length) (hn8 : L.length ≤ 8) (hbytes : ∀ x ∈ L, x.2.length = 512) (hid : ∀ x ∈ L, x.1 ≤ 12) (hnd : (L.map (·.1)).Nodup) (hkl : keep.length ≤ 9223372036854775807)
    (ha : Blk w bA 40 acs) (ha0 : acs[0]? = some (.int .u8 a0)) (ha1 : a0 ≤ 255) (ha4 : acs[4]? = some (.int .u8 a4)) (ha5 : a4 ≤ 255)
    (hQ : ∀ (v4 v22 v23 v24 v25 v26 v28 v29 v30 v31 v32 v33 v34 v35 v36 v157 v158 v159 v160 v161 v162 v163 v164 v165 v166 v167 v168 v169 v170 v171 v172 v173 v174 v175 v176 v177 v178 v179 v180 v181 v182 v183 v184 v185 v186 v187 v188 v189 v190 v191 v192 v193 v194 v195 v196 v197 v198 v199 v200 v201 v202 v203 v204 v205 v206 v207 v208 v209 v210 v211 v212 v213 v214 v215 v216 v217 v218 v219 v220 v221 v222 v223 v224 v225 v226 v227 v228 v229 v230 v231 v232 v233 v234 v235 v236 v237 v238 v239 v240 v241 v242 v243 v244 v245 v246 v247 v248 v249 v250 v251 v252 v253 v254 v255 v256 v257 v258 v259 v260 v261 v262 v263 v264 v265 v266 v267 v268 v269 v270 v271 v272 v273 v274 v275 v276 v277 v278 v279 v280 v281 v282 v283 v284 v285 v286 v287 v288 v289 v290 v291 v292 v293 v294 v295 v296 v297 v298 v299 v300 v301 v302 v303 v304 v305 v306 v307 v308 v309 v310 v311 v312 v313 v314 v315 v316 v317 v318 v319 v320 v321 v322 : Value) (w' : World) (u' : List (List UInt8)), Pm.Good u' (L.map (·.1)) → Pm.sec u' 2 = Pm.zeros 128 → LawAt base w0 w' d bx gs bk kv keep ⟨u', [], -1⟩ u' → Quiet gs w w' → Q .normal ⟨List.toArray (u0 :: u1 :: u2 :: Value.pointer (some ⟨bk, 0, none⟩) :: v4 :: Value.pointer (some ⟨d, 0, none⟩) :: u6 :: Value.pointer (some ⟨bx, 0, none⟩) :: u8 :: Value.string ⟨(Pm.zeros 128).toArray⟩ :: Value.func (.func 6) #[] #[.pointer (some ⟨bx, 0, none⟩), .pointer (some ⟨bk, 0, none⟩)] :: Value.func (.func 7) #[] #[] :: u12 :: Value.pointer (some ⟨bA, 0, none⟩) :: hv :: iv :: av :: ov :: u18 :: u19 :: u20 :: u21 :: v22 :: v23 :: v24 :: v25 :: v26 :: u27 :: v28 :: v29 :: v30 :: v31 :: v32 :: v33 :: v34 :: v35 :: v36 :: u37 :: u38 :: u39 :: u40 :: u41 :: u42 :: u43 :: u44 :: u45 :: u46 :: u47 :: u48 :: u49 :: u50 :: u51 :: u52 :: u53 :: u54 :: u55 :: u56 :: u57 :: u58 :: u59 :: u60 :: u61 :: u62 :: u63 :: u64 :: u65 :: u66 :: u67 :: u68 :: u69 :: u70 :: u71 :: u72 :: u73 :: u74 :: u75 :: u76 :: u77 :: u78 :: u79 :: u80 :: u81 :: u82 :: u83 :: u84 :: u85 :: u86 :: u87 :: u88 :: u89 :: u90 :: u91 :: u92 :: u93 :: u94 :: u95 :: u96 :: u97 :: u98 :: u99 :: u100 :: u101 :: u102 :: u103 :: u104 :: u105 :: u106 :: u107 :: u108 :: u109 :: u110 :: u111 :: u112 :: u113 :: u114 :: u115 :: u116 :: u117 :: u118 :: u119 :: u120 :: u121 :: u122 :: u123 :: u124 :: u125 :: u126 :: u127 :: u128 :: u129 :: u130 :: u131 :: u132 :: u133 :: u134 :: u135 :: u136 :: u137 :: u138 :: u139 :: u140 :: u141 :: u142 :: u143 :: u144 :: u145 :: u146 :: u147 :: u148 :: u149 :: u150 :: u151 :: u152 :: u153 :: u154 :: u155 :: u156 :: v157 :: v158 :: v159 :: v160 :: v161 :: v162 :: v163 :: v164 :: v165 :: v166 :: v167 :: v168 :: v169 :: v170 :: v171 :: v172 :: v173 :: v174 :: v175 :: v176 :: v177 :: v178 :: v179 :: v180 :: v181 :: v182 :: v183 :: v184 :: v185 :: v186 :: v187 :: v188 :: v189 :: v190 :: v191 :: v192 :: v193 :: v194 :: v195 :: v196 :: v197 :: v198 :: v199 :: v200 :: v201 :: v202 :: v203 :: v204 :: v205 :: v206 :: v207 :: v208 :: v209 :: v210 :: v211 :: v212 :: v213 :: v214 :: v215 :: v216 :: v217 :: v218 :: v219 :: v220 :: v221 :: v222 :: v223 :: v224 :: v225 :: v226 :: v227 :: v228 :: v229 :: v230 :: v231 :: v232 :: v233 :: v234 :: v235 :: v236 :: v237 :: v238 :: v239 :: v240 :: v241 :: v242 :: v243 :: v244 :: v245 :: v246 :: v247 :: v248 :: v249 :: v250 :: v251 :: v252 :: v253 :: v254 :: v255 :: v256 :: v257 :: v258 :: v259 :: v260 :: v261 :: v262 :: v263 :: v264 :: v265 :: v266 :: v267 :: v268 :: v269 :: v270 :: v271 :: v272 :: v273 :: v274 :: v275 :: v276 :: v277 :: v278 :: v279 :: v280 :: v281 :: v282 :: v283 :: v284 :: v285 :: v286 :: v287 :: v288 :: v289 :: v290 :: v291 :: v292 :: v293 :: v294 :: v295 :: v296 :: v297 :: v298 :: v299 :: v300 :: v301 :: v302 :: v303 :: v304 :: v305 :: v306 :: v307 :: v308 :: v309 :: v310 :: v311 :: v312 :: v313 :: v314 :: v315 :: v316 :: v317 :: v318 :: v319 :: v320 :: v321 :: v322 :: u323 :: u324 :: u325 :: u326 :: u327 :: u328 :: u329 :: u330 :: u331 :: u332 :: u333 :: u334 :: u335 :: u336 :: u337 :: u338 :: u339 :: u340 :: u341 :: u342 :: u343 :: u344 :: u345 :: u346 :: u347 :: u348 :: u349 :: u350 :: u351 :: []), []⟩ w') :
    Code.wp Try.prog (cDrop 5 lawRound) Q ⟨List.toArray (u0 :: u1 :: u2 :: Value.pointer (some ⟨bk, 0, none⟩) :: u4 :: Value.pointer (some ⟨d, 0, none⟩) :: u6 :: Value.pointer (some ⟨bx, 0, none⟩) :: u8 :: Value.string ⟨(Pm.zeros 128).toArray⟩ :: Value.func (.func 6) #[] #[.pointer (some ⟨bx, 0, none⟩), .pointer (some ⟨bk, 0, none⟩)] :: Value.func (.func 7) #[] #[] :: u12 :: Value.pointer (some ⟨bA, 0, none⟩) :: hv :: iv :: av :: ov :: u18 :: u19 :: u20 :: u21 :: u22 :: u23 :: u24 :: u25 :: u26 :: u27 :: u28 :: u29 :: u30 :: u31 :: u32 :: u33 :: u34 :: u35 :: u36 :: u37 :: u38 :: u39 :: u40 :: u41 :: u42 :: u43 :: u44 :: u45 :: u46 :: u47 :: u48 :: u49 :: u50 :: u51 :: u52 :: u53 :: u54 :: u55 :: u56 :: u57 :: u58 :: u59 :: u60 :: u61 :: u62 :: u63 :: u64 :: u65 :: u66 :: u67 :: u68 :: u69 :: u70 :: u71 :: u72 :: u73 :: u74 :: u75 :: u76 :: u77 :: u78 :: u79 :: u80 :: u81 :: u82 :: u83 :: u84 :: u85 :: u86 :: u87 :: u88 :: u89 :: u90 :: u91 :: u92 :: u93 :: u94 :: u95 :: u96 :: u97 :: u98 :: u99 :: u100 :: u101 :: u102 :: u103 :: u104 :: u105 :: u106 :: u107 :: u108 :: u109 :: u110 :: u111 :: u112 :: u113 :: u114 :: u115 :: u116 :: u117 :: u118 :: u119 :: u120 :: u121 :: u122 :: u123 :: u124 :: u125 :: u126 :: u127 :: u128 :: u129 :: u130 :: u131 :: u132 :: u133 :: u134 :: u135 :: u136 :: u137 :: u138 :: u139 :: u140 :: u141 :: u142 :: u143 :: u144 :: u145 :: u146 :: u147 :: u148 :: u149 :: u150 :: u151 :: u152 :: u153 :: u154 :: u155 :: u156 :: u157 :: u158 :: u159 :: u160 :: u161 :: u162 :: u163 :: u164 :: u165 :: u166 :: u167 :: u168 :: u169 :: u170 :: u171 :: u172 :: u173 :: u174 :: u175 :: u176 :: u177 :: u178 :: u179 :: u180 :: u181 :: u182 :: u183 :: u184 :: u185 :: u186 :: u187 :: u188 :: u189 :: u190 :: u191 :: u192 :: u193 :: u194 :: u195 :: u196 :: u197 :: u198 :: u199 :: u200 :: u201 :: u202 :: u203 :: u204 :: u205 :: u206 :: u207 :: u208 :: u209 :: u210 :: u211 :: u212 :: u213 :: u214 :: u215 :: u216 :: u217 :: u218 :: u219 :: u220 :: u221 :: u222 :: u223 :: u224 :: u225 :: u226 :: u227 :: u228 :: u229 :: u230 :: u231 :: u232 :: u233 :: u234 :: u235 :: u236 :: u237 :: u238 :: u239 :: u240 :: u241 :: u242 :: u243 :: u244 :: u245 :: u246 :: u247 :: u248 :: u249 :: u250 :: u251 :: u252 :: u253 :: u254 :: u255 :: u256 :: u257 :: u258 :: u259 :: u260 :: u261 :: u262 :: u263 :: u264 :: u265 :: u266 :: u267 :: u268 :: u269 :: u270 :: u271 :: u272 :: u273 :: u274 :: u275 :: u276 :: u277 :: u278 :: u279 :: u280 :: u281 :: u282 :: u283 :: u284 :: u285 :: u286 :: u287 :: u288 :: u289 :: u290 :: u291 :: u292 :: u293 :: u294 :: u295 :: u296 :: u297 :: u298 :: u299 :: u300 :: u301 :: u302 :: u303 :: u304 :: u305 :: u306 :: u307 :: u308 :: u309 :: u310 :: u311 :: u312 :: u313 :: u314 :: u315 :: u316 :: u317 :: u318 :: u319 :: u320 :: u321 :: u322 :: u323 :: u324 :: u325 :: u326 :: u327 :: u328 :: u329 :: u330 :: u331 :: u332 :: u333 :: u334 :: u335 :: u336 :: u337 :: u338 :: u339 :: u340 :: u341 :: u342 :: u343 :: u344 :: u345 :: u346 :: u347 :: u348 :: u349 :: u350 :: u351 :: []), []⟩ w := by
  conv => arg 2; whnf
  replace hQ := Lib.hid hQ
  have hidl : ∀ p ∈ L.map (·.1), p ≤ 12 := fun p hp => by
    obtain ⟨x, hx, rfl⟩ := List.mem_map.1 hp
    exact hid x hx
  have hul := hG.len
  have hwok := Pm.writeCalls_ok 2 35 87 L (by omega) (by omega) hn8 (Pm.markOf_len _ (by simpa using hn8)) hbytes (fun x hx => by have := hid x hx; omega)
  have hpg : ∀ x ∈ L, 35 + x.1 * 4 + 4 ≤ u.length := fun x hx => by have := hid x hx; omega
  have hwl := writeCalls_len L
  have hal : (Pm.homeW 3 (Pm.areaOf L)).length = L.length * 4 := by rw [Pm.homeW_len]; unfold Pm.areaOf; simp
  have hol : (Pm.homeW 35 L).length = L.length * 4 := Pm.homeW_len _ _
  have hwe : Pm.homeW 3 (Pm.areaOf L) ++ ([.sync, .wr 2 (Pm.markOf (L.map (·.1))), .sync] ++ (Pm.homeW 35 L ++ [.sync, .wr 2 (Pm.zeros 128), .sync])) = Pm.writeCalls 2 35 L := by simp [Pm.writeCalls]
  refine Go.wp_seq_k (fun K hK => ?_)
  replace hK := Lib.hid hK
  have hL' := Lib.hid hL
  clear hL
  replace hG := Lib.hid hG
  replace hnd := Lib.hid hnd
  replace hid := Lib.hid hid
  replace hidl := Lib.hid hidl
  replace hwok := Lib.hid hwok
  replace hpg := Lib.hid hpg
  replace hwe := Lib.hid hwe
  replace hbytes := Lib.hid hbytes
  replace hul := Lib.hid hul
  replace hwl := Lib.hid hwl
  replace hal := Lib.hid hal
  replace hol := Lib.hid hol
  go_wp2_with fail
  refine hK.out _ _ ?_
  clear hK K
  have hy := Blk.newAt w 32 #[.int .i64 (-1), .string ⟨#[]⟩] (g := w.heap.size) rfl
  have hb1 := ba (Below.refl w.heap.size w) (.cells #[.int .i64 (-1), .string ⟨#[]⟩] 32)
  generalize w.alloc (.cells #[.int .i64 (-1), .string ⟨#[]⟩] 32) = w1 at *
  obtain ⟨bsy, hbsy⟩ : ∃ g, g = w.heap.size := ⟨_, rfl⟩
  rw [← hbsy] at hy ⊢
  have hL1 := hL'.out.after hb1
  have hI1 := hI.below hb1
  have hA1 := CRow.below hA hb1
  have hO1 := CRow.below hO hb1
  have q1 : Quiet gs w w1 := Quiet.below hb1
  clear hb1 hA hO hbsy
  refine Go.wp_seq_k (fun K hK => ?_)
  refine law_cat base d bx gs bk bsy iv av ov kv (L.map (·.1)) _ _ keep ⟨u, [], -1⟩ u w0 w1 _ hL1 hI1 hA1 hO1 hy (by simpa using hn8) hidl.out (by have := hal.out; omega) (by have := hol.out; omega) (by have := hal.out; have := hol.out; omega) ?_
  intro x158 x159 x160 x161 x162 x163 x164 x165 x166 x167 x168 x169 x170 x171 x172 x173 w2 cv hcv hL2 q2
  refine hK _ _ ?_
  clear hK K hal hol hA1 hO1 hI1
  rw [hwe.out] at hcv
  have hy2 := q2 _ _ _ hy rfl (fun e => hy.ne_ hL1.sure.row (by decide) e)
  replace q2 := q1.trans q2
  clear hL1 hy q1 hwe
  have hao := q2 _ _ _ ha rfl (fun e => ha.ne_ hL'.out.sure.row (by decide) e)
  have hac : w2.cell? ⟨bA, 4, none⟩ = some (.int .u8 a4) := (hao.cell 4).trans ha4
  have hwa : IntKind.i64.wrap (a4 : Int) = a4 := IntWalk.i64_in _ ⟨by omega, by omega⟩
  obtain ⟨p, c, rfl⟩ := hcv.shape
  obtain ⟨cs, hcs⟩ : ∃ cs, cs = Pm.writeCalls 2 35 L := ⟨_, rfl⟩
  rw [← hcs] at hcv hwl hwok ⊢
  have HCS := Lib.hid hcs
  obtain ⟨n, hn⟩ : ∃ n, n = cs.length := ⟨_, rfl⟩
  rw [← hn] at hwl ⊢
  have HN := Lib.hid hn
  have hnb : 6 ≤ n ∧ n ≤ 80 := by have := hwl.out; omega
  clear hwl
  have hne : (((n : Int) + 6) == 0) = false := beq_eq_false_iff_ne.2 (by omega)
  obtain ⟨f, hf⟩ : ∃ f, f = a4 % (n + 6) := ⟨_, rfl⟩
  have hmod : (a4 : Int) % ((n : Int) + 6) = (f : Int) := by rw [hf]; norm_cast
  have hf100 : f ≤ 100 := by have := Nat.mod_lt a4 (show 0 < n + 6 by omega); omega
  have HF := Lib.hid (fuse_any f w2 base d _ hL2.disk (by omega))
  have hcv2 : CRow 0 w2 (.slice p n c) cs := by rw [HN.out]; exact hcv
  clear hcs hn hf hcv
  refine Go.wp_seq_k (fun K hK => ?_)
  replace hK := Lib.hid hK
  go_wp2_with fail
  refine hK.out _ _ ?_
  clear hK K
  clear hac hwa hmod hne
  refine Go.wp_seq_k (fun K hK => ?_)
  replace hK := Lib.hid hK
  go_wp2_with fail
  refine (HF.out).mono ?_
  rintro e w3 ⟨rfl, hI3, hK3⟩
  have hL3 := hL2.kept hK3 hI3
  have q3 := q2.trans (Quiet.kept hK3)
  have hy3 := hK3.blk hy2 rfl
  have hcv3 := hcv2.holds hK3.holds
  have HR := runs_any cs f bx bk gs _ kv keep u w3 base hcv3 hL3.sure hL3.box hL3.keep hL3.hgs (by rw [hul.out]; exact hwok.out) (by have := HN.out; omega) (by omega) (by have := hul.out; omega) hkl
  rw [← HN.out] at HR
  obtain ⟨b, hb⟩ : ∃ b, b = decide (n ≤ f) := ⟨_, rfl⟩
  rw [← hb] at HR
  have HB := Lib.hid hb
  replace HR := Lib.hid HR
  clear HF hL2 hI3 hK3 hcv2 hcv3 q2 hy2 hb
  go_wp2_with fail
  refine hK.out _ _ ?_
  clear hK K
  refine Go.wp_seq_k (fun K hK => ?_)
  replace hK := Lib.hid hK
  go_wp2_with fail
  refine (HR.out).mono ?_
  rintro e w4 ⟨rfl, hS4, hO4⟩
  have hL4 := hL3.only hO4 hS4
  have q4 := q3.trans (Quiet.only hO4)
  have hy4 := hy3.grown hO4 (fun e => by cases e; exact hy3.ne_ hL3.sure.row (by decide) rfl)
  have hH4 : HomesAt base w4 hv L := owns_quiet hH q4 hL'.out.sure.row rfl (by decide)
  have HT := twinwrite_any 2 35 L hv w4 base d ⟨u, [], f⟩ hL4.disk base hH4 (by omega) (by show 35 ≤ u.length; have := hul.out; omega) hn1 hn8 hbytes.out hpg.out hnd.out rfl
  rw [← HCS.out] at HT
  obtain ⟨r1, r2⟩ := Pm.run_runs u cs f keep
  rw [← HN.out, ← HB.out] at r2
  rw [r2] at HT
  obtain ⟨E, hE⟩ : ∃ E, E = (Pm.Dk.run ⟨u, [], f⟩ cs).1 := ⟨_, rfl⟩
  rw [← hE] at HT r1
  replace HT := Lib.hid HT
  replace r1 := Lib.hid r1
  clear HR hL3 q3 hS4 hO4 hy3 hH4 r2 hE
  go_wp2_with fail
  refine hK.out _ _ ?_
  clear hK K
  refine Go.wp_seq_k (fun K hK => ?_)
  replace hK := Lib.hid hK
  go_wp2_with fail
  refine (HT.out).mono ?_
  rintro e w5 ⟨rfl, hI5, hK5⟩
  have hL5 := hL4.kept hK5 hI5
  have q5 := q4.trans (Quiet.kept hK5)
  have hy5 := hK5.blk hy4 rfl
  have hG5 : Pm.Good (Pm.runsOf u cs f keep) (L.map (·.1)) := hG.out.runs (by simpa using hn8) cs f keep hwok.out (fun s hs => Pm.writeCalls_mark L s (by rw [← HCS.out]; exact hs))
  replace hG5 := Lib.hid hG5
  have hI5' : IdsAt base w5 iv (L.map (·.1)) := owns_quiet hI q5 hL'.out.sure.row rfl (by decide)
  have ha5' := q5 _ _ _ ha rfl (fun e => ha.ne_ hL'.out.sure.row (by decide) e)
  clear hL4 q4 hy4 hI5 hK5 HT hao
  cases b
  · have cc : Pm.code false = 40 := rfl
    rw [cc]
    clear cc
    go_wp2_with fail
    refine hK.out _ _ ?_
    clear hK K
    refine law_crash base d bx gs bk bsy bA a0 acs iv kv (L.map (·.1)) keep E _ w0 w5 Q hL5 r1.out hG5.out hI5' hy5 (by simpa using hn1) (by simpa using hn8) hnd.out hidl.out hkl ha5' ha0 ha1 ?_
    intro x4 x28 x29 x30 x31 x32 x33 x34 x35 x36 x204 x205 x206 x207 x208 x209 x210 x211 x212 x213 x214 x215 x216 x217 x218 x219 x220 x221 x222 x223 x224 x225 x226 x227 x228 x229 x230 x231 x232 x233 x234 x235 x236 x237 x238 x239 x240 x241 x242 x243 x244 x245 x246 x247 x248 x249 x250 x251 x252 x253 x254 x255 x256 x257 x258 x259 x260 x261 x262 x263 x264 x265 x266 x267 x268 x269 x270 x271 x272 x273 x274 x275 x276 x277 x278 x279 x280 x281 x282 x283 x284 x285 x286 x287 x288 x289 x290 x291 x292 x293 x294 x295 x296 x297 x298 x299 x300 x301 x302 x303 x304 x305 x306 x307 x308 x309 x310 x311 x312 x313 x314 x315 x316 x317 x318 x319 x320 x321 x322 w6 u6' hG6 hs6 hL6 q6
    exact hQ.out _ _ _ _ _ _ _ _ _ _ _ _ _ _ _ _ _ _ _ _ _ _ _ _ _ _ _ _ _ _ _ _ _ _ _ _ _ _ _ _ _ _ _ _ _ _ _ _ _ _ _ _ _ _ _ _ _ _ _ _ _ _ _ _ _ _ _ _ _ _ _ _ _ _ _ _ _ _ _ _ _ _ _ _ _ _ _ _ _ _ _ _ _ _ _ _ _ _ _ _ _ _ _ _ _ _ _ _ _ _ _ _ _ _ _ _ _ _ _ _ _ _ _ _ _ _ _ _ _ _ _ _ _ _ _ _ _ _ _ _ _ _ _ _ _ _ _ _ _ _ _ _ _ _ _ _ _ _ _ _ _ _ _ _ _ _ _ _ _ _ _ _ _ _ _ _ _ _ _ _ _ w6 u6' hG6 hs6 hL6 (q5.trans q6)
  · have cc : Pm.code true = 0 := rfl
    rw [cc]
    clear cc
    go_wp2_with fail
    refine hK.out _ _ ?_
    clear hK K
    refine law_crash base d bx gs bk bsy bA a0 acs iv kv (L.map (·.1)) keep E _ w0 w5 Q hL5 r1.out hG5.out hI5' hy5 (by simpa using hn1) (by simpa using hn8) hnd.out hidl.out hkl ha5' ha0 ha1 ?_
    intro x4 x28 x29 x30 x31 x32 x33 x34 x35 x36 x204 x205 x206 x207 x208 x209 x210 x211 x212 x213 x214 x215 x216 x217 x218 x219 x220 x221 x222 x223 x224 x225 x226 x227 x228 x229 x230 x231 x232 x233 x234 x235 x236 x237 x238 x239 x240 x241 x242 x243 x244 x245 x246 x247 x248 x249 x250 x251 x252 x253 x254 x255 x256 x257 x258 x259 x260 x261 x262 x263 x264 x265 x266 x267 x268 x269 x270 x271 x272 x273 x274 x275 x276 x277 x278 x279 x280 x281 x282 x283 x284 x285 x286 x287 x288 x289 x290 x291 x292 x293 x294 x295 x296 x297 x298 x299 x300 x301 x302 x303 x304 x305 x306 x307 x308 x309 x310 x311 x312 x313 x314 x315 x316 x317 x318 x319 x320 x321 x322 w6 u6' hG6 hs6 hL6 q6
    exact hQ.out _ _ _ _ _ _ _ _ _ _ _ _ _ _ _ _ _ _ _ _ _ _ _ _ _ _ _ _ _ _ _ _ _ _ _ _ _ _ _ _ _ _ _ _ _ _ _ _ _ _ _ _ _ _ _ _ _ _ _ _ _ _ _ _ _ _ _ _ _ _ _ _ _ _ _ _ _ _ _ _ _ _ _ _ _ _ _ _ _ _ _ _ _ _ _ _ _ _ _ _ _ _ _ _ _ _ _ _ _ _ _ _ _ _ _ _ _ _ _ _ _ _ _ _ _ _ _ _ _ _ _ _ _ _ _ _ _ _ _ _ _ _ _ _ _ _ _ _ _ _ _ _ _ _ _ _ _ _ _ _ _ _ _ _ _ _ _ _ _ _ _ _ _ _ _ _ _ _ _ _ _ w6 u6' hG6 hs6 hL6 (q5.trans q6)
end Go.Proofs.Ytkbjmgenceghlaa
