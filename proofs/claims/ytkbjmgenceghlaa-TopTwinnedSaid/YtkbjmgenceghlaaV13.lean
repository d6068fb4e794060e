/- The sectors by hand, filled. -/
import Derived.Test.YtkbjmgenceghlaaV2
namespace Go.Proofs.Ytkbjmgenceghlaa
open Go.RowKit
attribute [local go_sem ↓] Go.wp_at_zero Go.wp_at_succ
set_option maxRecDepth 1000000 in
set_option maxHeartbeats 4000000 in
theorem law_fill {u0 u1 u2 u3 u4 u5 u6 u8 u9 u10 u11 u12 u13 u14 u15 u16 u17 u18 u19 u20 u21 u22 u23 u24 u25 u26 u27 u28 u29 u30 u31 u32 u33 u34 u35 u36 u37 u38 u39 u40 u41 u42 u43 u44 u45 u46 u47 u48 u49 u50 u51 u52 u53 u54 u55 u56 u57 u58 u59 u60 u61 u62 u63 u64 u65 u66 u67 u68 u69 u70 u71 u72 u73 u74 u75 u76 u77 u78 u79 u80 u81 u82 u83 u84 u85 u86 u87 u88 u89 u90 u91 u92 u93 u94 u95 u96 u97 u98 u99 u100 u101 u102 u103 u104 u105 u106 u107 u108 u109 u110 u111 u112 u113 u114 u115 u116 u117 u118 u119 u120 u121 u122 u123 u124 u125 u126 u127 u128 u129 u130 u131 u132 u133 u134 u135 u136 u137 u138 u139 u140 u141 u142 u143 u144 u145 u146 u147 u148 u149 u150 u151 u152 u153 u154 u155 u156 u157 u158 u159 u160 u161 u162 u163 u164 u165 u166 u167 u168 u169 u170 u171 u172 u173 u174 u175 u176 u177 u178 u179 u180 u181 u182 u183 u184 u185 u186 u187 u188 u189 u190 u191 u192 u193 u194 u195 u196 u197 u198 u199 u200 u201 u202 u203 u204 u205 u206 u207 u208 u209 u210 u211 u212 u213 u214 u215 u216 u217 u218 u219 u220 u221 u222 u223 u224 u225 u226 u227 u228 u229 u230 u231 u232 u233 u234 u235 u236 u237 u238 u239 u240 u241 u242 u243 u244 u245 u246 u247 u248 u249 u250 u251 u252 u253 u254 u255 u256 u257 u258 u259 u260 u261 u262 u263 u264 u265 u266 u267 u268 u269 u270 u271 u272 u273 u274 u275 u276 u277 u278 u279 u280 u281 u282 u283 u284 u285 u286 u287 u288 u289 u290 u291 u292 u293 u294 u295 u296 u297 u298 u299 u300 u301 u302 u303 u304 u305 u306 u307 u308 u309 u310 u311 u312 u313 u314 u315 u316 u317 u318 u319 u320 u321 u322 u323 u324 u325 u326 u327 u328 u329 u330 u331 u332 u333 u334 u335 u336 u337 u338 u339 u340 u341 u342 u343 u344 u345 u346 u347 u348 u349 u350 u351 : Value} (bx gs : Nat) (w : World) (Q : Exit → Act → World → Prop)
    (hS : SureAt w bx gs (List.replicate 87 []))
    (hQ : ∀ (v8 v47 v48 v49 v50 v51 v52 v53 v54 v55 v56 : Value) (w' : World), SureAt w' bx gs (List.replicate 87 (Pm.zeros 128)) → Only w w' gs → Q .normal ⟨List.toArray (u0 :: u1 :: u2 :: u3 :: u4 :: u5 :: u6 :: Value.pointer (some ⟨bx, 0, none⟩) :: v8 :: u9 :: u10 :: u11 :: u12 :: u13 :: u14 :: u15 :: u16 :: u17 :: u18 :: u19 :: u20 :: u21 :: u22 :: u23 :: u24 :: u25 :: u26 :: u27 :: u28 :: u29 :: u30 :: u31 :: u32 :: u33 :: u34 :: u35 :: u36 :: u37 :: u38 :: u39 :: u40 :: u41 :: u42 :: u43 :: u44 :: u45 :: u46 :: v47 :: v48 :: v49 :: v50 :: v51 :: v52 :: v53 :: v54 :: v55 :: v56 :: u57 :: u58 :: u59 :: u60 :: u61 :: u62 :: u63 :: u64 :: u65 :: u66 :: u67 :: u68 :: u69 :: u70 :: u71 :: u72 :: u73 :: u74 :: u75 :: u76 :: u77 :: u78 :: u79 :: u80 :: u81 :: u82 :: u83 :: u84 :: u85 :: u86 :: u87 :: u88 :: u89 :: u90 :: u91 :: u92 :: u93 :: u94 :: u95 :: u96 :: u97 :: u98 :: u99 :: u100 :: u101 :: u102 :: u103 :: u104 :: u105 :: u106 :: u107 :: u108 :: u109 :: u110 :: u111 :: u112 :: u113 :: u114 :: u115 :: u116 :: u117 :: u118 :: u119 :: u120 :: u121 :: u122 :: u123 :: u124 :: u125 :: u126 :: u127 :: u128 :: u129 :: u130 :: u131 :: u132 :: u133 :: u134 :: u135 :: u136 :: u137 :: u138 :: u139 :: u140 :: u141 :: u142 :: u143 :: u144 :: u145 :: u146 :: u147 :: u148 :: u149 :: u150 :: u151 :: u152 :: u153 :: u154 :: u155 :: u156 :: u157 :: u158 :: u159 :: u160 :: u161 :: u162 :: u163 :: u164 :: u165 :: u166 :: u167 :: u168 :: u169 :: u170 :: u171 :: u172 :: u173 :: u174 :: u175 :: u176 :: u177 :: u178 :: u179 :: u180 :: u181 :: u182 :: u183 :: u184 :: u185 :: u186 :: u187 :: u188 :: u189 :: u190 :: u191 :: u192 :: u193 :: u194 :: u195 :: u196 :: u197 :: u198 :: u199 :: u200 :: u201 :: u202 :: u203 :: u204 :: u205 :: u206 :: u207 :: u208 :: u209 :: u210 :: u211 :: u212 :: u213 :: u214 :: u215 :: u216 :: u217 :: u218 :: u219 :: u220 :: u221 :: u222 :: u223 :: u224 :: u225 :: u226 :: u227 :: u228 :: u229 :: u230 :: u231 :: u232 :: u233 :: u234 :: u235 :: u236 :: u237 :: u238 :: u239 :: u240 :: u241 :: u242 :: u243 :: u244 :: u245 :: u246 :: u247 :: u248 :: u249 :: u250 :: u251 :: u252 :: u253 :: u254 :: u255 :: u256 :: u257 :: u258 :: u259 :: u260 :: u261 :: u262 :: u263 :: u264 :: u265 :: u266 :: u267 :: u268 :: u269 :: u270 :: u271 :: u272 :: u273 :: u274 :: u275 :: u276 :: u277 :: u278 :: u279 :: u280 :: u281 :: u282 :: u283 :: u284 :: u285 :: u286 :: u287 :: u288 :: u289 :: u290 :: u291 :: u292 :: u293 :: u294 :: u295 :: u296 :: u297 :: u298 :: u299 :: u300 :: u301 :: u302 :: u303 :: u304 :: u305 :: u306 :: u307 :: u308 :: u309 :: u310 :: u311 :: u312 :: u313 :: u314 :: u315 :: u316 :: u317 :: u318 :: u319 :: u320 :: u321 :: u322 :: u323 :: u324 :: u325 :: u326 :: u327 :: u328 :: u329 :: u330 :: u331 :: u332 :: u333 :: u334 :: u335 :: u336 :: u337 :: u338 :: u339 :: u340 :: u341 :: u342 :: u343 :: u344 :: u345 :: u346 :: u347 :: u348 :: u349 :: u350 :: u351 :: []), []⟩ w') :
    Code.wp Try.prog (cFst (cDrop 4 lawBody)) Q ⟨List.toArray (u0 :: u1 :: u2 :: u3 :: u4 :: u5 :: u6 :: Value.pointer (some ⟨bx, 0, none⟩) :: u8 :: u9 :: u10 :: u11 :: u12 :: u13 :: u14 :: u15 :: u16 :: u17 :: u18 :: u19 :: u20 :: u21 :: u22 :: u23 :: u24 :: u25 :: u26 :: u27 :: u28 :: u29 :: u30 :: u31 :: u32 :: u33 :: u34 :: u35 :: u36 :: u37 :: u38 :: u39 :: u40 :: u41 :: u42 :: u43 :: u44 :: u45 :: u46 :: u47 :: u48 :: u49 :: u50 :: u51 :: u52 :: u53 :: u54 :: u55 :: u56 :: u57 :: u58 :: u59 :: u60 :: u61 :: u62 :: u63 :: u64 :: u65 :: u66 :: u67 :: u68 :: u69 :: u70 :: u71 :: u72 :: u73 :: u74 :: u75 :: u76 :: u77 :: u78 :: u79 :: u80 :: u81 :: u82 :: u83 :: u84 :: u85 :: u86 :: u87 :: u88 :: u89 :: u90 :: u91 :: u92 :: u93 :: u94 :: u95 :: u96 :: u97 :: u98 :: u99 :: u100 :: u101 :: u102 :: u103 :: u104 :: u105 :: u106 :: u107 :: u108 :: u109 :: u110 :: u111 :: u112 :: u113 :: u114 :: u115 :: u116 :: u117 :: u118 :: u119 :: u120 :: u121 :: u122 :: u123 :: u124 :: u125 :: u126 :: u127 :: u128 :: u129 :: u130 :: u131 :: u132 :: u133 :: u134 :: u135 :: u136 :: u137 :: u138 :: u139 :: u140 :: u141 :: u142 :: u143 :: u144 :: u145 :: u146 :: u147 :: u148 :: u149 :: u150 :: u151 :: u152 :: u153 :: u154 :: u155 :: u156 :: u157 :: u158 :: u159 :: u160 :: u161 :: u162 :: u163 :: u164 :: u165 :: u166 :: u167 :: u168 :: u169 :: u170 :: u171 :: u172 :: u173 :: u174 :: u175 :: u176 :: u177 :: u178 :: u179 :: u180 :: u181 :: u182 :: u183 :: u184 :: u185 :: u186 :: u187 :: u188 :: u189 :: u190 :: u191 :: u192 :: u193 :: u194 :: u195 :: u196 :: u197 :: u198 :: u199 :: u200 :: u201 :: u202 :: u203 :: u204 :: u205 :: u206 :: u207 :: u208 :: u209 :: u210 :: u211 :: u212 :: u213 :: u214 :: u215 :: u216 :: u217 :: u218 :: u219 :: u220 :: u221 :: u222 :: u223 :: u224 :: u225 :: u226 :: u227 :: u228 :: u229 :: u230 :: u231 :: u232 :: u233 :: u234 :: u235 :: u236 :: u237 :: u238 :: u239 :: u240 :: u241 :: u242 :: u243 :: u244 :: u245 :: u246 :: u247 :: u248 :: u249 :: u250 :: u251 :: u252 :: u253 :: u254 :: u255 :: u256 :: u257 :: u258 :: u259 :: u260 :: u261 :: u262 :: u263 :: u264 :: u265 :: u266 :: u267 :: u268 :: u269 :: u270 :: u271 :: u272 :: u273 :: u274 :: u275 :: u276 :: u277 :: u278 :: u279 :: u280 :: u281 :: u282 :: u283 :: u284 :: u285 :: u286 :: u287 :: u288 :: u289 :: u290 :: u291 :: u292 :: u293 :: u294 :: u295 :: u296 :: u297 :: u298 :: u299 :: u300 :: u301 :: u302 :: u303 :: u304 :: u305 :: u306 :: u307 :: u308 :: u309 :: u310 :: u311 :: u312 :: u313 :: u314 :: u315 :: u316 :: u317 :: u318 :: u319 :: u320 :: u321 :: u322 :: u323 :: u324 :: u325 :: u326 :: u327 :: u328 :: u329 :: u330 :: u331 :: u332 :: u333 :: u334 :: u335 :: u336 :: u337 :: u338 :: u339 :: u340 :: u341 :: u342 :: u343 :: u344 :: u345 :: u346 :: u347 :: u348 :: u349 :: u350 :: u351 :: []), []⟩ w := by
  conv => arg 2; whnf
  replace hQ := Lib.hid hQ
  have hbox := hS.box.cell 0
  rw [List.length_replicate] at hbox
  change _ = some (Value.slice (some ⟨gs, 0, none⟩) 87 87) at hbox
  go_wp2_with fail
  clear hbox
  go_loopw [49] (fun i wr => ∃ k : Nat, k ≤ 87 ∧ i = .int .i64 k ∧ ∃ u : List (List UInt8), u.length = 87 ∧ (∀ j, j < k → u[j]? = some (Pm.zeros 128)) ∧ SureAt wr bx gs u ∧ Only w wr gs) (fun i _ => 87 - (intOf i).toNat)
  case atStart => exact ⟨0, by omega, rfl, List.replicate 87 [], by simp, by omega, hS, Only.refl _ _⟩
  case round =>
    clear hS
    obtain ⟨wo, rfl⟩ : ∃ wo : World, wo = wr := ⟨_, rfl⟩
    obtain ⟨k, hk, rfl, u, hul, hall, hS, hO⟩ := hrel
    by_cases hk87 : k < 87
    · have hB : Blk wo bx 28 #[.slice (some ⟨gs, 0, none⟩) 87 87] := by have := hS.box; rwa [hul] at this
      have hul' := Lib.hid hul
      have hall' := Lib.hid hall
      clear hul hall
      go_wp2_with fail
      refine wp_region_noPanic ?_
      refine wp_region_phase 3 (fun w' => Blk w' bx 28 #[.slice (some ⟨gs, 0, none⟩) 87 87]) (by kernel_rfl) hB.drew (fun hH => ?_)
      refine wpAnyP_take 0 (some 52) (v := ?_) rfl rfl (by kernel_rfl) (fun _ _ _ h => h) hH (Or.inl ⟨by rfl, ?_⟩) ?_
      rotate_left
      · (intro w_ hSw; have c0 := hSw.cell 0; change _ = some (Value.slice (some ⟨gs, 0, none⟩) 87 87) at c0; go_simp; try with_reducible rfl)
      simp only [Act.put, List.setIfInBounds_toArray, List.set_cons_zero, List.set_cons_succ]
      refine wpAnyP_take 1 (some 53) (v := ?_) rfl rfl (by kernel_rfl) (fun _ _ _ h => h) hH (Or.inl ⟨by rfl, ?_⟩) ?_
      rotate_left
      · (intro w_ hSw; go_simp; try with_reducible rfl)
      simp only [Act.put, List.setIfInBounds_toArray, List.set_cons_zero, List.set_cons_succ]
      refine wpAnyP_calls 2 (some 54) rfl rfl (by kernel_rfl) (by rfl) (exec_call rfl (by rfl) (by simp only [List.map_toArray, List.map_cons, List.map_nil]; rfl) (by rfl) (enters_of Try.func5 (by kernel_rfl) rfl)) (rep0 128 wo.drew (by omega)) ?_
      rintro e x1 ⟨rfl, hb1⟩
      refine ⟨_, rfl, fun _ => hH.after hb1, ?_⟩
      simp only [Act.put, List.setIfInBounds_toArray, List.set_cons_zero, List.set_cons_succ]
      have hb2 : Below wo.heap.size wo x1 := bt (bd (Below.refl _ _)) hb1
      have hS1 := hS.below hb2
      have hS2 := hS1.set k (Pm.zeros 128)
      have hO2 := (hO.below hb2).set_ k (.string ⟨(Pm.zeros 128).toArray⟩)
      obtain ⟨old, hrow⟩ : ∃ s : List UInt8, x1.cell? ⟨gs, k, none⟩ = some (.string ⟨s.toArray⟩) := ⟨_, (hS1.row.cell k).trans (sureArr_get _ _ (by rw [hul'.out]; exact hk87))⟩
      have hfrz := hS1.row.frozen k
      refine wpAnyP_runs 3 (some 55) rfl rfl (by kernel_rfl) (by rfl) (exec_indexAddr rfl (u := .slice (some ⟨gs, 0, none⟩) 87 87) (z := .int .i64 k) (v := .pointer (some ⟨gs, k, none⟩)) (w1 := x1) (by go_simp) (by rfl) (by rfl)) (fun h => absurd h (by omega)) ?_
      simp only [Act.put, List.setIfInBounds_toArray, List.set_cons_zero, List.set_cons_succ]
      refine wpAnyP_skips 4 rfl rfl (by kernel_rfl) (by rfl) (exec_store rfl (u := .pointer (some ⟨gs, k, none⟩)) (z := .string ⟨(Pm.zeros 128).toArray⟩) (w1 := x1.setCell ⟨gs, k, none⟩ (.string ⟨(Pm.zeros 128).toArray⟩)) (by go_simp) (by rfl) (by rfl)) (fun h => absurd h (by omega)) ?_
      refine wpAnyP_done (by kernel_rfl) ?_ _
      refine NoPanic.normal ?_
      have hall2 : ∀ j, j < k + 1 → (u.set k (Pm.zeros 128))[j]? = some (Pm.zeros 128) := by
        intro j hj
        by_cases e : k = j
        · subst e
          rw [List.getElem?_set_self (by rw [hul'.out]; exact hk87)]
        · rw [List.getElem?_set_ne e]
          exact hall'.out j (by omega)
      replace hall2 := Lib.hid hall2
      have hS3 := Lib.hid hS2
      clear hrow hfrz hS hS1 hS2 hB hb1 hb2 hO hH hall'
      generalize x1.setCell ⟨gs, k, none⟩ (.string ⟨(Pm.zeros 128).toArray⟩) = x2 at *
      go_wp2_with fail
      go_roundw
      case rel => exact ⟨k + 1, by omega, by go_num, u.set k (Pm.zeros 128), by rw [List.length_set, hul'.out], hall2.out, hS3.out, hO2⟩
      case measure => simp [intOf]; omega
    · obtain rfl : k = 87 := by omega
      have hu : u = List.replicate 87 (Pm.zeros 128) := by
        apply List.ext_getElem?
        intro j
        by_cases hj : j < 87
        · rw [hall j hj, List.getElem?_replicate, if_pos hj]
        · rw [List.getElem?_eq_none (by omega), List.getElem?_eq_none (by simp; omega)]
      rw [hu] at hS
      replace hS := Lib.hid hS
      clear hu hall hul
      go_wp2_with fail
      exact hQ.out _ _ _ _ _ _ _ _ _ _ _ wo hS.out hO
end Go.Proofs.Ytkbjmgenceghlaa
