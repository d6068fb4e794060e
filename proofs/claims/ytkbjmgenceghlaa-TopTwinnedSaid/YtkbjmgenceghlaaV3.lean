/- A round over the fuses, whole: the disk goes down, is repaired, crashes; by hand likewise. -/
import Derived.Test.YtkbjmgenceghlaaV1
import Derived.Test.YtkbjmgenceghlaaV2
namespace Go.Proofs.Ytkbjmgenceghlaa
open Go.RowKit
attribute [local go_sem ↓] Go.wp_at_zero Go.wp_at_succ
theorem fixes_any (base d f : Nat) (keep : List Bool) (u : List (List UInt8)) (ids : List Nat) (bcs : List Pm.Cl) (due : Int) (hG : Pm.Good u ids) (hn1 : 1 ≤ ids.length) (hn8 : ids.length ≤ 8) (hnd : ids.Nodup) (hid : ∀ p ∈ ids, p ≤ 12)
    (hz : Pm.sec u 2 = Pm.zeros 128 → bcs = [] ∧ due = 0) (hnz : Pm.sec u 2 ≠ Pm.zeros 128 → bcs = Pm.backCalls 2 35 (Pm.backOf u 2 ids) ∧ due = ids.length) : Fixes base d f bcs.length due keep u (Pm.runsOf u bcs f keep) := by
  intro W hW
  have hl := hG.len
  have h2lt : 2 < u.length := by omega
  have hs2 : Pm.sec u 2 = u[2]'h2lt := by unfold Pm.sec; rw [List.getElem?_eq_getElem h2lt]; rfl
  by_cases hf0 : f = 0
  · subst hf0
    refine (repair_down 2 35 W base d _ hW (by omega) (by show 35 ≤ u.length; omega) rfl).mono ?_
    rintro e w' ⟨rfl, hb⟩
    exact ⟨0, 40, ⟨u, [], ((0 : Nat) : Int)⟩, rfl, hW.below hb, Kept.below hb, by rw [Pm.runsOf_still]; rfl, fun h => absurd rfl h⟩
  · have hf : ((f : Nat) : Int) ≠ 0 := by omega
    by_cases hs : Pm.sec u 2 = Pm.zeros 128
    · obtain ⟨rfl, rfl⟩ := hz hs
      refine (repair_clear 2 35 W base d _ hW (by omega) (by show 35 ≤ u.length; omega) hf rfl h2lt (hs2.symm.trans hs)).mono ?_
      rintro e w' ⟨rfl, hb⟩
      exact ⟨0, 0, ⟨u, [], (f : Int)⟩, rfl, hW.below hb, Kept.below hb, by rw [Pm.runsOf_none]; rfl, fun _ => ⟨fun _ => ⟨rfl, rfl⟩, fun h => absurd (Nat.zero_le _) h⟩⟩
    · obtain ⟨rfl, rfl⟩ := hnz hs
      have hm := hG.mark.resolve_left hs
      refine (repair_set 2 35 ids W base d _ hW (by omega) (by show 35 ≤ u.length; omega) hf rfl h2lt (hs2.symm.trans hm) hn1 hn8 (fun p hp => by have := hid p hp; show 35 + p * 4 + 4 ≤ u.length; omega) hnd).mono ?_
      rintro e w' ⟨rfl, hI, hK⟩
      obtain ⟨r1, r2⟩ := Pm.run_runs u (Pm.backCalls 2 35 (Pm.backOf u 2 ids)) f keep
      refine ⟨_, _, _, rfl, hI, hK, r1, fun _ => ⟨fun h => ?_, fun h => ?_⟩⟩
      · have r3 : (Pm.Dk.run ⟨u, [], (f : Int)⟩ (Pm.backCalls 2 35 (Pm.backOf u 2 ids))).2 = true := by rw [r2]; simp; exact h
        rw [r3]
        exact ⟨rfl, rfl⟩
      · have r3 : (Pm.Dk.run ⟨u, [], (f : Int)⟩ (Pm.backCalls 2 35 (Pm.backOf u 2 ids))).2 = false := by rw [r2]; simp; omega
        rw [r3]
        rfl
theorem back_facts (u : List (List UInt8)) (ids : List Nat) (bcs : List Pm.Cl) (due : Int) (f : Nat) (keep : List Bool) (hG : Pm.Good u ids) (hn8 : ids.length ≤ 8) (hid : ∀ p ∈ ids, p ≤ 12)
    (hz : Pm.sec u 2 = Pm.zeros 128 → bcs = [] ∧ due = 0) (hnz : Pm.sec u 2 ≠ Pm.zeros 128 → bcs = Pm.backCalls 2 35 (Pm.backOf u 2 ids) ∧ due = ids.length) :
    bcs.length ≤ 100 ∧ (∀ c ∈ bcs, c.ok u.length) ∧ (0 ≤ due ∧ due ≤ 100) ∧ Pm.Good (Pm.runsOf u bcs f keep) ids ∧ (f = 100 → Pm.sec (Pm.runsOf u bcs f keep) 2 = Pm.zeros 128) := by
  have hl := hG.len
  by_cases hs : Pm.sec u 2 = Pm.zeros 128
  · obtain ⟨rfl, rfl⟩ := hz hs
    rw [Pm.runsOf_none]
    exact ⟨by simp, fun c hc => by simp at hc, ⟨by omega, by omega⟩, hG, fun _ => hs⟩
  · obtain ⟨rfl, rfl⟩ := hnz hs
    have hbl := Pm.backOf_len u 2 ids
    have hok : ∀ c ∈ Pm.backCalls 2 35 (Pm.backOf u 2 ids), c.ok u.length := Pm.backCalls_ok 2 35 u.length _ (by omega)
      (fun x hx => by
        unfold Pm.backOf at hx
        obtain ⟨y, hy, rfl⟩ := List.mem_map.1 hx
        have hk := List.mem_zipIdx hy
        exact Pm.pageN_whole u hG.secs _ 4 (by omega))
      (fun x hx => by
        unfold Pm.backOf at hx
        obtain ⟨y, hy, rfl⟩ := List.mem_map.1 hx
        have hk := List.mem_zipIdx hy
        have : y.1 ∈ ids := by rw [hk.2.2]; exact List.getElem_mem _
        have := hid _ this
        show 35 + y.1 * 4 + 4 ≤ u.length
        omega)
    refine ⟨?_, hok, ⟨by omega, by omega⟩, hG.runs hn8 _ f keep (by rw [← hl]; exact hok) (fun s h => .inl (Pm.backCalls_mark _ s h)), fun e => Pm.back_whole u _ f keep (by omega) (by omega)⟩
    unfold Pm.backCalls
    simp only [List.length_append, Pm.homeW_len, List.length_cons, List.length_nil]
    omega
set_option maxRecDepth 1000000 in
set_option maxHeartbeats 4000000 in
theorem law_fix {u0 u1 u2 u4 u6 u8 u11 u12 u13 u14 u16 u17 u18 u19 u20 u21 u23 u24 u25 u26 u27 u29 u30 u31 u32 u33 u34 u35 u36 u37 u38 u39 u40 u41 u42 u43 u44 u45 u46 u47 u48 u49 u50 u51 u52 u53 u54 u55 u56 u57 u58 u59 u60 u61 u62 u63 u64 u65 u66 u67 u68 u69 u70 u71 u72 u73 u74 u75 u76 u77 u78 u79 u80 u81 u82 u83 u84 u85 u86 u87 u88 u89 u90 u91 u92 u93 u94 u95 u96 u97 u98 u99 u100 u101 u102 u103 u104 u105 u106 u107 u108 u109 u110 u111 u112 u113 u114 u115 u116 u117 u118 u119 u120 u121 u122 u123 u124 u125 u126 u127 u128 u129 u130 u131 u132 u133 u134 u135 u136 u137 u138 u139 u140 u141 u142 u143 u144 u145 u146 u147 u148 u149 u150 u151 u152 u153 u154 u155 u156 u157 u158 u159 u160 u161 u162 u163 u164 u165 u166 u167 u168 u169 u170 u171 u172 u173 u174 u175 u176 u177 u178 u179 u180 u181 u182 u183 u184 u185 u186 u187 u188 u189 u190 u191 u192 u193 u194 u195 u196 u197 u198 u199 u200 u201 u202 u203 u204 u205 u206 u207 u208 u209 u210 u211 u212 u213 u214 u215 u216 u217 u218 u219 u220 u221 u222 u223 u224 u225 u226 u227 u228 u229 u230 u231 u232 u233 u234 u235 u236 u237 u238 u239 u240 u241 u242 u243 u244 u245 u246 u247 u248 u249 u250 u251 u252 u253 u254 u255 u256 u257 u258 u259 u260 u261 u262 u263 u264 u265 u266 u267 u268 u269 u270 u271 u272 u273 u274 u275 u276 u277 u278 u279 u280 u281 u282 u283 u284 u285 u286 u287 u288 u289 u290 u291 u292 u293 u294 u295 u296 u297 u298 u299 u300 u301 u302 u303 u304 u305 u306 u307 u308 u309 u310 u311 u312 u313 u314 u315 u316 u317 u318 u319 u320 u321 u322 u323 u324 u325 u326 u327 u328 u329 u330 u331 u332 u333 u334 u335 u336 u337 u338 u339 u340 u341 u342 u343 u344 u345 u346 u347 u348 u349 u350 u351 : Value} (base d bx gs bk bsy f : Nat) (iv kv : Value) (ids : List Nat) (keep : List Bool) (u : List (List UInt8)) (w0 w : World) (Q : Exit → Act → World → Prop)
    (hL : LawAt base w0 w d bx gs bk kv keep ⟨u, [], -1⟩ u) (hG : Pm.Good u ids) (hI : IdsAt base w iv ids) (hy : Blk w bsy 32 #[.int .i64 (-1), .string ⟨#[]⟩]) (hn1 : 1 ≤ ids.length) (hn8 : ids.length ≤ 8) (hnd : ids.Nodup) (hid : ∀ p ∈ ids, p ≤ 12) (hf : f ≤ 100) (hkl : keep.length ≤ 9223372036854775807)
    (hQ : ∀ (v29 v30 v31 v32 v33 v34 v35 v36 v225 v226 v227 v228 v229 v230 v231 v232 v233 v234 v235 v236 v237 v238 v239 v240 v241 v242 v243 v244 v245 v246 v247 v248 v249 v250 v251 v252 v253 v254 v255 v256 v257 v258 v259 v260 v261 v262 v263 v264 v265 v266 v267 v268 v269 v270 v271 v272 v273 v274 v275 v276 v277 v278 v279 v280 v281 v282 v283 v284 v285 v286 v287 v288 v289 v290 v291 v292 v293 v294 v295 v296 v297 v298 v299 v300 v301 v302 v303 v304 v305 v306 v307 v308 v309 v310 v311 v312 v313 v314 v315 v316 v317 v318 v319 v320 v321 : Value) (w' : World) (u' : List (List UInt8)), Pm.Good u' ids → (f = 100 → Pm.sec u' 2 = Pm.zeros 128) → LawAt base w0 w' d bx gs bk kv keep ⟨u', [], -1⟩ u' → Quiet gs w w' → Q .normal ⟨List.toArray (u0 :: u1 :: u2 :: Value.pointer (some ⟨bk, 0, none⟩) :: u4 :: Value.pointer (some ⟨d, 0, none⟩) :: u6 :: Value.pointer (some ⟨bx, 0, none⟩) :: u8 :: Value.string ⟨(Pm.zeros 128).toArray⟩ :: Value.func (.func 6) #[] #[.pointer (some ⟨bx, 0, none⟩), .pointer (some ⟨bk, 0, none⟩)] :: u11 :: u12 :: u13 :: u14 :: iv :: u16 :: u17 :: u18 :: u19 :: u20 :: u21 :: Value.pointer (some ⟨bsy, 0, none⟩) :: u23 :: u24 :: u25 :: u26 :: u27 :: Value.int .i64 f :: v29 :: v30 :: v31 :: v32 :: v33 :: v34 :: v35 :: v36 :: u37 :: u38 :: u39 :: u40 :: u41 :: u42 :: u43 :: u44 :: u45 :: u46 :: u47 :: u48 :: u49 :: u50 :: u51 :: u52 :: u53 :: u54 :: u55 :: u56 :: u57 :: u58 :: u59 :: u60 :: u61 :: u62 :: u63 :: u64 :: u65 :: u66 :: u67 :: u68 :: u69 :: u70 :: u71 :: u72 :: u73 :: u74 :: u75 :: u76 :: u77 :: u78 :: u79 :: u80 :: u81 :: u82 :: u83 :: u84 :: u85 :: u86 :: u87 :: u88 :: u89 :: u90 :: u91 :: u92 :: u93 :: u94 :: u95 :: u96 :: u97 :: u98 :: u99 :: u100 :: u101 :: u102 :: u103 :: u104 :: u105 :: u106 :: u107 :: u108 :: u109 :: u110 :: u111 :: u112 :: u113 :: u114 :: u115 :: u116 :: u117 :: u118 :: u119 :: u120 :: u121 :: u122 :: u123 :: u124 :: u125 :: u126 :: u127 :: u128 :: u129 :: u130 :: u131 :: u132 :: u133 :: u134 :: u135 :: u136 :: u137 :: u138 :: u139 :: u140 :: u141 :: u142 :: u143 :: u144 :: u145 :: u146 :: u147 :: u148 :: u149 :: u150 :: u151 :: u152 :: u153 :: u154 :: u155 :: u156 :: u157 :: u158 :: u159 :: u160 :: u161 :: u162 :: u163 :: u164 :: u165 :: u166 :: u167 :: u168 :: u169 :: u170 :: u171 :: u172 :: u173 :: u174 :: u175 :: u176 :: u177 :: u178 :: u179 :: u180 :: u181 :: u182 :: u183 :: u184 :: u185 :: u186 :: u187 :: u188 :: u189 :: u190 :: u191 :: u192 :: u193 :: u194 :: u195 :: u196 :: u197 :: u198 :: u199 :: u200 :: u201 :: u202 :: u203 :: u204 :: u205 :: u206 :: u207 :: u208 :: u209 :: u210 :: u211 :: u212 :: u213 :: u214 :: u215 :: u216 :: u217 :: u218 :: u219 :: u220 :: u221 :: u222 :: u223 :: u224 :: v225 :: v226 :: v227 :: v228 :: v229 :: v230 :: v231 :: v232 :: v233 :: v234 :: v235 :: v236 :: v237 :: v238 :: v239 :: v240 :: v241 :: v242 :: v243 :: v244 :: v245 :: v246 :: v247 :: v248 :: v249 :: v250 :: v251 :: v252 :: v253 :: v254 :: v255 :: v256 :: v257 :: v258 :: v259 :: v260 :: v261 :: v262 :: v263 :: v264 :: v265 :: v266 :: v267 :: v268 :: v269 :: v270 :: v271 :: v272 :: v273 :: v274 :: v275 :: v276 :: v277 :: v278 :: v279 :: v280 :: v281 :: v282 :: v283 :: v284 :: v285 :: v286 :: v287 :: v288 :: v289 :: v290 :: v291 :: v292 :: v293 :: v294 :: v295 :: v296 :: v297 :: v298 :: v299 :: v300 :: v301 :: v302 :: v303 :: v304 :: v305 :: v306 :: v307 :: v308 :: v309 :: v310 :: v311 :: v312 :: v313 :: v314 :: v315 :: v316 :: v317 :: v318 :: v319 :: v320 :: v321 :: u322 :: u323 :: u324 :: u325 :: u326 :: u327 :: u328 :: u329 :: u330 :: u331 :: u332 :: u333 :: u334 :: u335 :: u336 :: u337 :: u338 :: u339 :: u340 :: u341 :: u342 :: u343 :: u344 :: u345 :: u346 :: u347 :: u348 :: u349 :: u350 :: u351 :: []), []⟩ w') :
    Code.wp Try.prog (cDrop 1 fixRound) Q ⟨List.toArray (u0 :: u1 :: u2 :: Value.pointer (some ⟨bk, 0, none⟩) :: u4 :: Value.pointer (some ⟨d, 0, none⟩) :: u6 :: Value.pointer (some ⟨bx, 0, none⟩) :: u8 :: Value.string ⟨(Pm.zeros 128).toArray⟩ :: Value.func (.func 6) #[] #[.pointer (some ⟨bx, 0, none⟩), .pointer (some ⟨bk, 0, none⟩)] :: u11 :: u12 :: u13 :: u14 :: iv :: u16 :: u17 :: u18 :: u19 :: u20 :: u21 :: Value.pointer (some ⟨bsy, 0, none⟩) :: u23 :: u24 :: u25 :: u26 :: u27 :: Value.int .i64 f :: u29 :: u30 :: u31 :: u32 :: u33 :: u34 :: u35 :: u36 :: u37 :: u38 :: u39 :: u40 :: u41 :: u42 :: u43 :: u44 :: u45 :: u46 :: u47 :: u48 :: u49 :: u50 :: u51 :: u52 :: u53 :: u54 :: u55 :: u56 :: u57 :: u58 :: u59 :: u60 :: u61 :: u62 :: u63 :: u64 :: u65 :: u66 :: u67 :: u68 :: u69 :: u70 :: u71 :: u72 :: u73 :: u74 :: u75 :: u76 :: u77 :: u78 :: u79 :: u80 :: u81 :: u82 :: u83 :: u84 :: u85 :: u86 :: u87 :: u88 :: u89 :: u90 :: u91 :: u92 :: u93 :: u94 :: u95 :: u96 :: u97 :: u98 :: u99 :: u100 :: u101 :: u102 :: u103 :: u104 :: u105 :: u106 :: u107 :: u108 :: u109 :: u110 :: u111 :: u112 :: u113 :: u114 :: u115 :: u116 :: u117 :: u118 :: u119 :: u120 :: u121 :: u122 :: u123 :: u124 :: u125 :: u126 :: u127 :: u128 :: u129 :: u130 :: u131 :: u132 :: u133 :: u134 :: u135 :: u136 :: u137 :: u138 :: u139 :: u140 :: u141 :: u142 :: u143 :: u144 :: u145 :: u146 :: u147 :: u148 :: u149 :: u150 :: u151 :: u152 :: u153 :: u154 :: u155 :: u156 :: u157 :: u158 :: u159 :: u160 :: u161 :: u162 :: u163 :: u164 :: u165 :: u166 :: u167 :: u168 :: u169 :: u170 :: u171 :: u172 :: u173 :: u174 :: u175 :: u176 :: u177 :: u178 :: u179 :: u180 :: u181 :: u182 :: u183 :: u184 :: u185 :: u186 :: u187 :: u188 :: u189 :: u190 :: u191 :: u192 :: u193 :: u194 :: u195 :: u196 :: u197 :: u198 :: u199 :: u200 :: u201 :: u202 :: u203 :: u204 :: u205 :: u206 :: u207 :: u208 :: u209 :: u210 :: u211 :: u212 :: u213 :: u214 :: u215 :: u216 :: u217 :: u218 :: u219 :: u220 :: u221 :: u222 :: u223 :: u224 :: u225 :: u226 :: u227 :: u228 :: u229 :: u230 :: u231 :: u232 :: u233 :: u234 :: u235 :: u236 :: u237 :: u238 :: u239 :: u240 :: u241 :: u242 :: u243 :: u244 :: u245 :: u246 :: u247 :: u248 :: u249 :: u250 :: u251 :: u252 :: u253 :: u254 :: u255 :: u256 :: u257 :: u258 :: u259 :: u260 :: u261 :: u262 :: u263 :: u264 :: u265 :: u266 :: u267 :: u268 :: u269 :: u270 :: u271 :: u272 :: u273 :: u274 :: u275 :: u276 :: u277 :: u278 :: u279 :: u280 :: u281 :: u282 :: u283 :: u284 :: u285 :: u286 :: u287 :: u288 :: u289 :: u290 :: u291 :: u292 :: u293 :: u294 :: u295 :: u296 :: u297 :: u298 :: u299 :: u300 :: u301 :: u302 :: u303 :: u304 :: u305 :: u306 :: u307 :: u308 :: u309 :: u310 :: u311 :: u312 :: u313 :: u314 :: u315 :: u316 :: u317 :: u318 :: u319 :: u320 :: u321 :: u322 :: u323 :: u324 :: u325 :: u326 :: u327 :: u328 :: u329 :: u330 :: u331 :: u332 :: u333 :: u334 :: u335 :: u336 :: u337 :: u338 :: u339 :: u340 :: u341 :: u342 :: u343 :: u344 :: u345 :: u346 :: u347 :: u348 :: u349 :: u350 :: u351 :: []), []⟩ w := by
  conv => arg 2; whnf
  replace hQ := Lib.hid hQ
  refine Go.wp_seq_k (fun K hK => ?_)
  replace hK := Lib.hid hK
  go_wp2_with fail
  refine hK.out _ _ ?_
  clear hK K
  refine Go.wp_seq_k (fun K hK => ?_)
  replace hK := Lib.hid hK
  go_wp2_with fail
  refine hK.out _ _ ?_
  clear hK K
  refine Go.wp_seq_k (fun K hK => ?_)
  refine law_back base d bx gs bk bsy iv kv ids keep ⟨u, [], -1⟩ u w0 w _ hL hG hI hy hn8 hid ?_
  intro v31 v32 v33 v225 v226 v227 v228 v229 v230 v231 v232 v233 v234 v235 v236 v237 v238 v239 v240 v241 v242 v243 v244 v245 v246 v247 v248 v249 v250 v251 v252 v253 v254 v255 v256 v257 v258 v259 v260 v261 v262 v263 v264 v265 v266 v267 v268 w1 bv bcs due hz hnz hB hL1 q1
  refine hK _ _ ?_
  obtain ⟨b1, b2, b3, b4, b5⟩ := back_facts u ids bcs due f keep hG hn8 hid hz hnz
  have hl := hG.len
  refine law_fix2 base d bx gs bk f due bv kv keep u (Pm.runsOf u bcs f keep) bcs w0 w1 Q hL1 hB b1 hf b2 (by omega) (by omega) hkl b3 (fixes_any base d f keep u ids bcs due hG hn1 hn8 hnd hid hz hnz) rfl ?_
  intro x29 x30 x34 x35 x36 x269 x270 x271 x272 x273 x274 x275 x276 x277 x278 x279 x280 x281 x282 x283 x284 x285 x286 x287 x288 x289 x290 x291 x292 x293 x294 x295 x296 x297 x298 x299 x300 x301 x302 x303 x304 x305 x306 x307 x308 x309 x310 x311 x312 x313 x314 x315 x316 x317 x318 x319 x320 x321 w2 hL2 q2
  exact hQ.out _ _ _ _ _ _ _ _ _ _ _ _ _ _ _ _ _ _ _ _ _ _ _ _ _ _ _ _ _ _ _ _ _ _ _ _ _ _ _ _ _ _ _ _ _ _ _ _ _ _ _ _ _ _ _ _ _ _ _ _ _ _ _ _ _ _ _ _ _ _ _ _ _ _ _ _ _ _ _ _ _ _ _ _ _ _ _ _ _ _ _ _ _ _ _ _ _ _ _ _ _ _ _ _ _ w2 _ b4 b5 hL2 (q1.trans q2)
end Go.Proofs.Ytkbjmgenceghlaa
