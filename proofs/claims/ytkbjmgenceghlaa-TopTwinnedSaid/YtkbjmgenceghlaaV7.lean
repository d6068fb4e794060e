/- The calls that a write is due, put in one row. -/
import Derived.Test.YtkbjmgenceghlaaV6
namespace Go.Proofs.Ytkbjmgenceghlaa
open Go.RowKit
attribute [local go_sem ↓] Go.wp_at_zero Go.wp_at_succ
theorem crows4 {W : World} {g : Nat} {v1 v2 v3 v4 : Value} {A B C D : List Pm.Cl} (h : Blk W g 30 #[v1, v2, v3, v4]) (h1 : CRow 0 W v1 A) (h2 : CRow 0 W v2 B) (h3 : CRow 0 W v3 C) (h4 : CRow 0 W v4 D) : CRows W g [v1, v2, v3, v4] [A, B, C, D] := by
  refine ⟨rfl, fun k hk hk' => ?_⟩
  have : k < 4 := hk
  rcases (show k = 0 ∨ k = 1 ∨ k = 2 ∨ k = 3 by omega) with rfl | rfl | rfl | rfl
  · exact ⟨h.cell 0, h1⟩
  · exact ⟨h.cell 1, h2⟩
  · exact ⟨h.cell 2, h3⟩
  · exact ⟨h.cell 3, h4⟩
set_option maxRecDepth 1000000 in
set_option maxHeartbeats 8000000 in
theorem law_cat {u0 u1 u2 u4 u6 u8 u12 u13 u14 u18 u19 u20 u21 u23 u24 u25 u26 u27 u28 u29 u30 u31 u32 u33 u34 u35 u36 u37 u38 u39 u40 u41 u42 u43 u44 u45 u46 u47 u48 u49 u50 u51 u52 u53 u54 u55 u56 u57 u58 u59 u60 u61 u62 u63 u64 u65 u66 u67 u68 u69 u70 u71 u72 u73 u74 u75 u76 u77 u78 u79 u80 u81 u82 u83 u84 u85 u86 u87 u88 u89 u90 u91 u92 u93 u94 u95 u96 u97 u98 u99 u100 u101 u102 u103 u104 u105 u106 u107 u108 u109 u110 u111 u112 u113 u114 u115 u116 u117 u118 u119 u120 u121 u122 u123 u124 u125 u126 u127 u128 u129 u130 u131 u132 u133 u134 u135 u136 u137 u138 u139 u140 u141 u142 u143 u144 u145 u146 u147 u148 u149 u150 u151 u152 u153 u154 u155 u156 u157 u158 u159 u160 u161 u162 u163 u164 u165 u166 u167 u168 u169 u170 u171 u172 u173 u174 u175 u176 u177 u178 u179 u180 u181 u182 u183 u184 u185 u186 u187 u188 u189 u190 u191 u192 u193 u194 u195 u196 u197 u198 u199 u200 u201 u202 u203 u204 u205 u206 u207 u208 u209 u210 u211 u212 u213 u214 u215 u216 u217 u218 u219 u220 u221 u222 u223 u224 u225 u226 u227 u228 u229 u230 u231 u232 u233 u234 u235 u236 u237 u238 u239 u240 u241 u242 u243 u244 u245 u246 u247 u248 u249 u250 u251 u252 u253 u254 u255 u256 u257 u258 u259 u260 u261 u262 u263 u264 u265 u266 u267 u268 u269 u270 u271 u272 u273 u274 u275 u276 u277 u278 u279 u280 u281 u282 u283 u284 u285 u286 u287 u288 u289 u290 u291 u292 u293 u294 u295 u296 u297 u298 u299 u300 u301 u302 u303 u304 u305 u306 u307 u308 u309 u310 u311 u312 u313 u314 u315 u316 u317 u318 u319 u320 u321 u322 u323 u324 u325 u326 u327 u328 u329 u330 u331 u332 u333 u334 u335 u336 u337 u338 u339 u340 u341 u342 u343 u344 u345 u346 u347 u348 u349 u350 u351 : Value} (base d bx gs bk bsy : Nat) (iv av ov kv : Value) (ids : List Nat) (A O : List Pm.Cl) (keep : List Bool) (D : Pm.Dk) (u : List (List UInt8)) (w0 w : World) (Q : Exit → Act → World → Prop)
    (hL : LawAt base w0 w d bx gs bk kv keep D u) (hI : IdsAt base w iv ids) (hA : CRow 0 w av A) (hO : CRow 0 w ov O) (hy : Blk w bsy 32 #[.int .i64 (-1), .string ⟨#[]⟩]) (hn8 : ids.length ≤ 8) (hid : ∀ p ∈ ids, p ≤ 12) (hA0 : 0 < A.length) (hO0 : 0 < O.length) (hAO : A.length + O.length ≤ 900)
    (hQ : ∀ (v158 v159 v160 v161 v162 v163 v164 v165 v166 v167 v168 v169 v170 v171 v172 v173 : Value) (w' : World) (cv : Value), CRow 0 w' cv (A ++ ([.sync, .wr 2 (Pm.markOf ids), .sync] ++ (O ++ [.sync, .wr 2 (Pm.zeros 128), .sync]))) → LawAt base w0 w' d bx gs bk kv keep D u → Quiet gs w w' → Q .normal ⟨List.toArray (u0 :: u1 :: u2 :: Value.pointer (some ⟨bk, 0, none⟩) :: u4 :: Value.pointer (some ⟨d, 0, none⟩) :: u6 :: Value.pointer (some ⟨bx, 0, none⟩) :: u8 :: Value.string ⟨(Pm.zeros 128).toArray⟩ :: Value.func (.func 6) #[] #[.pointer (some ⟨bx, 0, none⟩), .pointer (some ⟨bk, 0, none⟩)] :: Value.func (.func 7) #[] #[] :: u12 :: u13 :: u14 :: iv :: av :: ov :: u18 :: u19 :: u20 :: u21 :: Value.pointer (some ⟨bsy, 0, none⟩) :: cv :: u24 :: u25 :: u26 :: u27 :: u28 :: u29 :: u30 :: u31 :: u32 :: u33 :: u34 :: u35 :: u36 :: u37 :: u38 :: u39 :: u40 :: u41 :: u42 :: u43 :: u44 :: u45 :: u46 :: u47 :: u48 :: u49 :: u50 :: u51 :: u52 :: u53 :: u54 :: u55 :: u56 :: u57 :: u58 :: u59 :: u60 :: u61 :: u62 :: u63 :: u64 :: u65 :: u66 :: u67 :: u68 :: u69 :: u70 :: u71 :: u72 :: u73 :: u74 :: u75 :: u76 :: u77 :: u78 :: u79 :: u80 :: u81 :: u82 :: u83 :: u84 :: u85 :: u86 :: u87 :: u88 :: u89 :: u90 :: u91 :: u92 :: u93 :: u94 :: u95 :: u96 :: u97 :: u98 :: u99 :: u100 :: u101 :: u102 :: u103 :: u104 :: u105 :: u106 :: u107 :: u108 :: u109 :: u110 :: u111 :: u112 :: u113 :: u114 :: u115 :: u116 :: u117 :: u118 :: u119 :: u120 :: u121 :: u122 :: u123 :: u124 :: u125 :: u126 :: u127 :: u128 :: u129 :: u130 :: u131 :: u132 :: u133 :: u134 :: u135 :: u136 :: u137 :: u138 :: u139 :: u140 :: u141 :: u142 :: u143 :: u144 :: u145 :: u146 :: u147 :: u148 :: u149 :: u150 :: u151 :: u152 :: u153 :: u154 :: u155 :: u156 :: u157 :: v158 :: v159 :: v160 :: v161 :: v162 :: v163 :: v164 :: v165 :: v166 :: v167 :: v168 :: v169 :: v170 :: v171 :: v172 :: v173 :: u174 :: u175 :: u176 :: u177 :: u178 :: u179 :: u180 :: u181 :: u182 :: u183 :: u184 :: u185 :: u186 :: u187 :: u188 :: u189 :: u190 :: u191 :: u192 :: u193 :: u194 :: u195 :: u196 :: u197 :: u198 :: u199 :: u200 :: u201 :: u202 :: u203 :: u204 :: u205 :: u206 :: u207 :: u208 :: u209 :: u210 :: u211 :: u212 :: u213 :: u214 :: u215 :: u216 :: u217 :: u218 :: u219 :: u220 :: u221 :: u222 :: u223 :: u224 :: u225 :: u226 :: u227 :: u228 :: u229 :: u230 :: u231 :: u232 :: u233 :: u234 :: u235 :: u236 :: u237 :: u238 :: u239 :: u240 :: u241 :: u242 :: u243 :: u244 :: u245 :: u246 :: u247 :: u248 :: u249 :: u250 :: u251 :: u252 :: u253 :: u254 :: u255 :: u256 :: u257 :: u258 :: u259 :: u260 :: u261 :: u262 :: u263 :: u264 :: u265 :: u266 :: u267 :: u268 :: u269 :: u270 :: u271 :: u272 :: u273 :: u274 :: u275 :: u276 :: u277 :: u278 :: u279 :: u280 :: u281 :: u282 :: u283 :: u284 :: u285 :: u286 :: u287 :: u288 :: u289 :: u290 :: u291 :: u292 :: u293 :: u294 :: u295 :: u296 :: u297 :: u298 :: u299 :: u300 :: u301 :: u302 :: u303 :: u304 :: u305 :: u306 :: u307 :: u308 :: u309 :: u310 :: u311 :: u312 :: u313 :: u314 :: u315 :: u316 :: u317 :: u318 :: u319 :: u320 :: u321 :: u322 :: u323 :: u324 :: u325 :: u326 :: u327 :: u328 :: u329 :: u330 :: u331 :: u332 :: u333 :: u334 :: u335 :: u336 :: u337 :: u338 :: u339 :: u340 :: u341 :: u342 :: u343 :: u344 :: u345 :: u346 :: u347 :: u348 :: u349 :: u350 :: u351 :: []), []⟩ w') :
    Code.wp Try.prog (cFst (cDrop 6 lawRound)) Q ⟨List.toArray (u0 :: u1 :: u2 :: Value.pointer (some ⟨bk, 0, none⟩) :: u4 :: Value.pointer (some ⟨d, 0, none⟩) :: u6 :: Value.pointer (some ⟨bx, 0, none⟩) :: u8 :: Value.string ⟨(Pm.zeros 128).toArray⟩ :: Value.func (.func 6) #[] #[.pointer (some ⟨bx, 0, none⟩), .pointer (some ⟨bk, 0, none⟩)] :: Value.func (.func 7) #[] #[] :: u12 :: u13 :: u14 :: iv :: av :: ov :: u18 :: u19 :: u20 :: u21 :: Value.pointer (some ⟨bsy, 0, none⟩) :: u23 :: u24 :: u25 :: u26 :: u27 :: u28 :: u29 :: u30 :: u31 :: u32 :: u33 :: u34 :: u35 :: u36 :: u37 :: u38 :: u39 :: u40 :: u41 :: u42 :: u43 :: u44 :: u45 :: u46 :: u47 :: u48 :: u49 :: u50 :: u51 :: u52 :: u53 :: u54 :: u55 :: u56 :: u57 :: u58 :: u59 :: u60 :: u61 :: u62 :: u63 :: u64 :: u65 :: u66 :: u67 :: u68 :: u69 :: u70 :: u71 :: u72 :: u73 :: u74 :: u75 :: u76 :: u77 :: u78 :: u79 :: u80 :: u81 :: u82 :: u83 :: u84 :: u85 :: u86 :: u87 :: u88 :: u89 :: u90 :: u91 :: u92 :: u93 :: u94 :: u95 :: u96 :: u97 :: u98 :: u99 :: u100 :: u101 :: u102 :: u103 :: u104 :: u105 :: u106 :: u107 :: u108 :: u109 :: u110 :: u111 :: u112 :: u113 :: u114 :: u115 :: u116 :: u117 :: u118 :: u119 :: u120 :: u121 :: u122 :: u123 :: u124 :: u125 :: u126 :: u127 :: u128 :: u129 :: u130 :: u131 :: u132 :: u133 :: u134 :: u135 :: u136 :: u137 :: u138 :: u139 :: u140 :: u141 :: u142 :: u143 :: u144 :: u145 :: u146 :: u147 :: u148 :: u149 :: u150 :: u151 :: u152 :: u153 :: u154 :: u155 :: u156 :: u157 :: u158 :: u159 :: u160 :: u161 :: u162 :: u163 :: u164 :: u165 :: u166 :: u167 :: u168 :: u169 :: u170 :: u171 :: u172 :: u173 :: u174 :: u175 :: u176 :: u177 :: u178 :: u179 :: u180 :: u181 :: u182 :: u183 :: u184 :: u185 :: u186 :: u187 :: u188 :: u189 :: u190 :: u191 :: u192 :: u193 :: u194 :: u195 :: u196 :: u197 :: u198 :: u199 :: u200 :: u201 :: u202 :: u203 :: u204 :: u205 :: u206 :: u207 :: u208 :: u209 :: u210 :: u211 :: u212 :: u213 :: u214 :: u215 :: u216 :: u217 :: u218 :: u219 :: u220 :: u221 :: u222 :: u223 :: u224 :: u225 :: u226 :: u227 :: u228 :: u229 :: u230 :: u231 :: u232 :: u233 :: u234 :: u235 :: u236 :: u237 :: u238 :: u239 :: u240 :: u241 :: u242 :: u243 :: u244 :: u245 :: u246 :: u247 :: u248 :: u249 :: u250 :: u251 :: u252 :: u253 :: u254 :: u255 :: u256 :: u257 :: u258 :: u259 :: u260 :: u261 :: u262 :: u263 :: u264 :: u265 :: u266 :: u267 :: u268 :: u269 :: u270 :: u271 :: u272 :: u273 :: u274 :: u275 :: u276 :: u277 :: u278 :: u279 :: u280 :: u281 :: u282 :: u283 :: u284 :: u285 :: u286 :: u287 :: u288 :: u289 :: u290 :: u291 :: u292 :: u293 :: u294 :: u295 :: u296 :: u297 :: u298 :: u299 :: u300 :: u301 :: u302 :: u303 :: u304 :: u305 :: u306 :: u307 :: u308 :: u309 :: u310 :: u311 :: u312 :: u313 :: u314 :: u315 :: u316 :: u317 :: u318 :: u319 :: u320 :: u321 :: u322 :: u323 :: u324 :: u325 :: u326 :: u327 :: u328 :: u329 :: u330 :: u331 :: u332 :: u333 :: u334 :: u335 :: u336 :: u337 :: u338 :: u339 :: u340 :: u341 :: u342 :: u343 :: u344 :: u345 :: u346 :: u347 :: u348 :: u349 :: u350 :: u351 :: []), []⟩ w := by
  conv => arg 2; whnf
  replace hQ := Lib.hid hQ
  obtain ⟨pa, ca, rfl⟩ := hA.shape
  obtain ⟨po, co, rfl⟩ := hO.shape
  have HM : ∀ W, IdsAt base W iv ids → Calls Try.prog 7 #[iv] W fun e w' => e = .returned (.string ⟨(Pm.markOf ids).toArray⟩) ∧ Below W.heap.size W w' := fun W hW => marked_any ids iv W base hW hn8 (fun p hp => by have := hid p hp; omega)
  obtain ⟨MK, hMK⟩ : ∃ MK, MK = Pm.markOf ids := ⟨_, rfl⟩
  rw [← hMK] at HM
  replace HM := Lib.hid HM
  have HMK := Lib.hid hMK
  have hb0 : Below w.heap.size w w.drew := bd (Below.refl _ _)
  have hI0 := hI.below hb0
  have hAw := hA
  have hOw := hO
  have hy1 : Blk w.drew bsy 32 #[.int .i64 (-1), .string ⟨#[]⟩] := hy.drew
  obtain ⟨al, hal⟩ : ∃ al, al = A.length := ⟨_, rfl⟩
  obtain ⟨ol, hol⟩ : ∃ ol, ol = O.length := ⟨_, rfl⟩
  have HAL := Lib.hid hal
  have HOL := Lib.hid hol
  have HL := Lib.hid hL
  have HN := Lib.hid (And.intro hA0 (And.intro hO0 hAO))
  replace hid := Lib.hid hid
  have hQ1 := hQ.out
  rw [← hal, ← hol] at hQ1
  replace hQ := Lib.hid hQ1
  clear hQ1
  rw [← hal, ← hol]
  clear hal hol hL hA0 hO0 hAO hMK hid hI hA hO hy
  refine wp_region_noPanic ?_
  refine wp_region_phase 16 (fun w' => Blk w' bsy 32 #[.int .i64 (-1), .string ⟨#[]⟩]) (by kernel_rfl) hy1 (fun hH => ?_)
  refine wpAnyP_take 0 (some 158) (v := ?_) rfl rfl (by kernel_rfl) (fun _ _ _ h => h) hH (Or.inl ⟨by rfl, ?_⟩) ?_
  rotate_left
  · (intro w_ hSw; go_simp; try with_reducible rfl)
  simp only [Act.put, List.setIfInBounds_toArray, List.set_cons_zero, List.set_cons_succ]
  refine wpAnyP_take 1 (some 159) (v := ?_) rfl rfl (by kernel_rfl) (fun _ _ _ h => h) hH (Or.inl ⟨by rfl, ?_⟩) ?_
  rotate_left
  · (intro w_ hSw; have c0 := hSw.cell 0; have c1 := hSw.cell 1; change _ = some (Value.int .i64 (-1)) at c0; change _ = some (Value.string ⟨#[]⟩) at c1; go_simp; try with_reducible rfl)
  simp only [Act.put, List.setIfInBounds_toArray, List.set_cons_zero, List.set_cons_succ]
  refine wpAnyP_take 2 (some 160) (v := ?_) rfl rfl (by kernel_rfl) (fun _ _ _ h => h) hH (Or.inl ⟨by rfl, ?_⟩) ?_
  rotate_left
  · (intro w_ hSw; go_simp; try with_reducible rfl)
  simp only [Act.put, List.setIfInBounds_toArray, List.set_cons_zero, List.set_cons_succ]
  refine wpAnyP_take 3 (some 161) (v := ?_) rfl rfl (by kernel_rfl) (fun _ _ _ h => h) hH (Or.inl ⟨by rfl, ?_⟩) ?_
  rotate_left
  · (intro w_ hSw; go_simp; try with_reducible rfl)
  simp only [Act.put, List.setIfInBounds_toArray, List.set_cons_zero, List.set_cons_succ]
  refine wpAnyP_take 6 (some 164) (v := ?_) rfl rfl (by kernel_rfl) (fun _ _ _ h => h) hH (Or.inl ⟨by rfl, ?_⟩) ?_
  rotate_left
  · (intro w_ hSw; have c0 := hSw.cell 0; have c1 := hSw.cell 1; change _ = some (Value.int .i64 (-1)) at c0; change _ = some (Value.string ⟨#[]⟩) at c1; go_simp; try with_reducible rfl)
  simp only [Act.put, List.setIfInBounds_toArray, List.set_cons_zero, List.set_cons_succ]
  refine wpAnyP_take 8 (some 166) (v := ?_) rfl rfl (by kernel_rfl) (fun _ _ _ h => h) hH (Or.inl ⟨by rfl, ?_⟩) ?_
  rotate_left
  · (intro w_ hSw; go_simp; try with_reducible rfl)
  simp only [Act.put, List.setIfInBounds_toArray, List.set_cons_zero, List.set_cons_succ]
  refine wpAnyP_take 9 (some 167) (v := ?_) rfl rfl (by kernel_rfl) (fun _ _ _ h => h) hH (Or.inl ⟨by rfl, ?_⟩) ?_
  rotate_left
  · (intro w_ hSw; have c0 := hSw.cell 0; have c1 := hSw.cell 1; change _ = some (Value.int .i64 (-1)) at c0; change _ = some (Value.string ⟨#[]⟩) at c1; go_simp; try with_reducible rfl)
  simp only [Act.put, List.setIfInBounds_toArray, List.set_cons_zero, List.set_cons_succ]
  refine wpAnyP_take 10 (some 168) (v := ?_) rfl rfl (by kernel_rfl) (fun _ _ _ h => h) hH (Or.inl ⟨by rfl, ?_⟩) ?_
  rotate_left
  · (intro w_ hSw; go_simp; try with_reducible rfl)
  simp only [Act.put, List.setIfInBounds_toArray, List.set_cons_zero, List.set_cons_succ]
  refine wpAnyP_take 11 (some 169) (v := ?_) rfl rfl (by kernel_rfl) (fun _ _ _ h => h) hH (Or.inl ⟨by rfl, ?_⟩) ?_
  rotate_left
  · (intro w_ hSw; go_simp; try with_reducible rfl)
  simp only [Act.put, List.setIfInBounds_toArray, List.set_cons_zero, List.set_cons_succ]
  refine wpAnyP_take 12 (some 170) (v := ?_) rfl rfl (by kernel_rfl) (fun _ _ _ h => h) hH (Or.inl ⟨by rfl, ?_⟩) ?_
  rotate_left
  · (intro w_ hSw; have c0 := hSw.cell 0; have c1 := hSw.cell 1; change _ = some (Value.int .i64 (-1)) at c0; change _ = some (Value.string ⟨#[]⟩) at c1; go_simp; try with_reducible rfl)
  simp only [Act.put, List.setIfInBounds_toArray, List.set_cons_zero, List.set_cons_succ]
  refine wpAnyP_two 4 13 (by kernel_rfl) ?_ ?_
  · refine pick_calls (some 162) rfl rfl (by rfl) (exec_call rfl (by rfl) (by simp only [List.map_toArray, List.map_cons, List.map_nil]; rfl) (by rfl) (enters_of Try.func7 (by kernel_rfl) rfl)) (HM.out w.drew hI0) ?_
    rintro e x1 ⟨rfl, hsC⟩
    have hH := hH.after hsC
    have hbC := bt hb0 hsC
    refine ⟨_, rfl, fun _ => hH, ?_⟩
    simp only [Act.put, List.setIfInBounds_toArray, List.set_cons_zero, List.set_cons_succ]
    refine wpAnyP_take 5 (some 163) (v := ?_) rfl rfl (by kernel_rfl) (fun _ _ _ h => h) hH (Or.inl ⟨by rfl, ?_⟩) ?_
    rotate_left
    · (intro w_ hSw; go_simp; try with_reducible rfl)
    simp only [Act.put, List.setIfInBounds_toArray, List.set_cons_zero, List.set_cons_succ]
    refine wpAnyP_two 7 13 (by kernel_rfl) ?_ ?_
    · refine pick_runs (some 165) rfl rfl (by rfl) (exec_buildSlice rfl (run_lit30 x1 (-1) 2 (-1) ⟨#[]⟩ ⟨MK.toArray⟩ ⟨#[]⟩) (by simp only [List.map_toArray, List.map_cons, List.map_nil]; rfl)) (fun _ => hH.alloc _) ?_
      simp only [Act.put, List.setIfInBounds_toArray, List.set_cons_zero, List.set_cons_succ]
      have hR1 := crow_new3 x1 MK (g := x1.heap.size) rfl
      have hH := hH.alloc (.cells #[.int .i64 (-1), .string ⟨#[]⟩, .int .i64 2, .string ⟨MK.toArray⟩, .int .i64 (-1), .string ⟨#[]⟩] 32)
      have hs1 := ba (Below.refl x1.heap.size x1) (.cells #[.int .i64 (-1), .string ⟨#[]⟩, .int .i64 2, .string ⟨MK.toArray⟩, .int .i64 (-1), .string ⟨#[]⟩] 32)
      have hbD := bt hbC hs1
      obtain ⟨g1, hg1⟩ : ∃ g, g = x1.heap.size := ⟨_, rfl⟩
      rw [← hg1] at hR1 ⊢
      generalize x1.alloc (.cells #[.int .i64 (-1), .string ⟨#[]⟩, .int .i64 2, .string ⟨MK.toArray⟩, .int .i64 (-1), .string ⟨#[]⟩] 32) = W1 at *
      refine wpAnyP_runs 13 (some 171) rfl rfl (by kernel_rfl) (by rfl) (exec_buildSlice rfl (run_lit30 W1 (-1) 2 (-1) ⟨#[]⟩ ⟨(Pm.zeros 128).toArray⟩ ⟨#[]⟩) (by simp only [List.map_toArray, List.map_cons, List.map_nil]; rfl)) (fun _ => hH.alloc _) ?_
      simp only [Act.put, List.setIfInBounds_toArray, List.set_cons_zero, List.set_cons_succ]
      have hR2 := crow_new3 W1 (Pm.zeros 128) (g := W1.heap.size) rfl
      have hH := hH.alloc (.cells #[.int .i64 (-1), .string ⟨#[]⟩, .int .i64 2, .string ⟨(Pm.zeros 128).toArray⟩, .int .i64 (-1), .string ⟨#[]⟩] 32)
      have hs2 := ba (Below.refl W1.heap.size W1) (.cells #[.int .i64 (-1), .string ⟨#[]⟩, .int .i64 2, .string ⟨(Pm.zeros 128).toArray⟩, .int .i64 (-1), .string ⟨#[]⟩] 32)
      have hbE := bt hbD hs2
      obtain ⟨g2, hg2⟩ : ∃ g, g = W1.heap.size := ⟨_, rfl⟩
      rw [← hg2] at hR2 ⊢
      generalize W1.alloc (.cells #[.int .i64 (-1), .string ⟨#[]⟩, .int .i64 2, .string ⟨(Pm.zeros 128).toArray⟩, .int .i64 (-1), .string ⟨#[]⟩] 32) = W2 at *
      refine wpAnyP_runs 14 (some 172) rfl rfl (by kernel_rfl) (by rfl) (exec_buildSlice rfl (run_lit80 W2 pa (some ⟨g1, 0, none⟩) po (some ⟨g2, 0, none⟩) al 3 ol 3 ca 3 co 3) (by simp only [List.map_toArray, List.map_cons, List.map_nil]; rfl)) (fun _ => hH.alloc _) ?_
      simp only [Act.put, List.setIfInBounds_toArray, List.set_cons_zero, List.set_cons_succ]
      have hh4 := hH.alloc (.cells #[Value.slice pa al ca, Value.slice (some ⟨g1, 0, none⟩) 3 3, Value.slice po ol co, Value.slice (some ⟨g2, 0, none⟩) 3 3] 30)
      have hn4 := Blk.newAt W2 30 #[Value.slice pa al ca, Value.slice (some ⟨g1, 0, none⟩) 3 3, Value.slice po ol co, Value.slice (some ⟨g2, 0, none⟩) 3 3] (g := W2.heap.size) rfl
      have hs4 := ba (Below.refl W2.heap.size W2) (.cells #[Value.slice pa al ca, Value.slice (some ⟨g1, 0, none⟩) 3 3, Value.slice po ol co, Value.slice (some ⟨g2, 0, none⟩) 3 3] 30)
      have hb4 := bt hbE hs4
      have hB1 := CRow.below (CRow.below hR1 hs2) hs4
      have hB2 := CRow.below hR2 hs4
      generalize W2.alloc (.cells #[Value.slice pa al ca, Value.slice (some ⟨g1, 0, none⟩) 3 3, Value.slice po ol co, Value.slice (some ⟨g2, 0, none⟩) 3 3] 30) = W4 at *
      generalize W2.heap.size = g4 at *
      have hB3 : CRow 0 W4 (.slice pa al ca) A := by rw [HAL.out]; exact CRow.below hAw hb4
      have hB4 : CRow 0 W4 (.slice po ol co) O := by rw [HOL.out]; exact CRow.below hOw hb4
      refine wpAnyP_calls 15 (some 173) rfl rfl (by kernel_rfl) (by rfl) (exec_call rfl (by rfl) (by simp only [List.map_toArray, List.map_cons, List.map_nil]; rfl) (by rfl) (enters_of Try.func12 (by kernel_rfl) rfl)) (concat_any g4 4 _ _ W4 (crows4 hn4 hB3 hB1 hB4 hB2) (by have := HN.out; intro cs hcs; simp only [List.mem_cons, List.not_mem_nil, or_false] at hcs; rcases hcs with rfl | rfl | rfl | rfl <;> first | exact this.1 | exact this.2.1 | simp) (by simp) (by have := HN.out; simp [Pm.cntL]; omega) (by simp)) ?_
      rintro e W5 ⟨cv, rfl, hcv, hs5⟩
      refine ⟨_, rfl, fun _ => hh4.after hs5, ?_⟩
      simp only [Act.put, List.setIfInBounds_toArray, List.set_cons_zero, List.set_cons_succ]
      refine wpAnyP_runs 16 (some 23) rfl rfl (by kernel_rfl) (by rfl) (exec_move rfl (by rfl)) (fun h => absurd h (by omega)) ?_
      simp only [Act.put, List.setIfInBounds_toArray, List.set_cons_zero, List.set_cons_succ]
      refine wpAnyP_done (by kernel_rfl) ?_ _
      refine NoPanic.normal ?_
      refine hQ.out _ _ _ _ _ _ _ _ _ _ _ _ _ _ _ _ W5 cv ?_ (HL.out.after (bt hb4 hs5)) (Quiet.below (bt hb4 hs5))
      have := CRow.zero hcv
      rw [HMK.out] at this
      simpa using this
    · refine pick_runs (some 171) rfl rfl (by rfl) (exec_buildSlice rfl (run_lit30 x1 (-1) 2 (-1) ⟨#[]⟩ ⟨(Pm.zeros 128).toArray⟩ ⟨#[]⟩) (by simp only [List.map_toArray, List.map_cons, List.map_nil]; rfl)) (fun _ => hH.alloc _) ?_
      simp only [Act.put, List.setIfInBounds_toArray, List.set_cons_zero, List.set_cons_succ]
      have hR2 := crow_new3 x1 (Pm.zeros 128) (g := x1.heap.size) rfl
      have hH := hH.alloc (.cells #[.int .i64 (-1), .string ⟨#[]⟩, .int .i64 2, .string ⟨(Pm.zeros 128).toArray⟩, .int .i64 (-1), .string ⟨#[]⟩] 32)
      have hs2 := ba (Below.refl x1.heap.size x1) (.cells #[.int .i64 (-1), .string ⟨#[]⟩, .int .i64 2, .string ⟨(Pm.zeros 128).toArray⟩, .int .i64 (-1), .string ⟨#[]⟩] 32)
      have hbD := bt hbC hs2
      obtain ⟨g2, hg2⟩ : ∃ g, g = x1.heap.size := ⟨_, rfl⟩
      rw [← hg2] at hR2 ⊢
      generalize x1.alloc (.cells #[.int .i64 (-1), .string ⟨#[]⟩, .int .i64 2, .string ⟨(Pm.zeros 128).toArray⟩, .int .i64 (-1), .string ⟨#[]⟩] 32) = W1 at *
      refine wpAnyP_runs 7 (some 165) rfl rfl (by kernel_rfl) (by rfl) (exec_buildSlice rfl (run_lit30 W1 (-1) 2 (-1) ⟨#[]⟩ ⟨MK.toArray⟩ ⟨#[]⟩) (by simp only [List.map_toArray, List.map_cons, List.map_nil]; rfl)) (fun _ => hH.alloc _) ?_
      simp only [Act.put, List.setIfInBounds_toArray, List.set_cons_zero, List.set_cons_succ]
      have hR1 := crow_new3 W1 MK (g := W1.heap.size) rfl
      have hH := hH.alloc (.cells #[.int .i64 (-1), .string ⟨#[]⟩, .int .i64 2, .string ⟨MK.toArray⟩, .int .i64 (-1), .string ⟨#[]⟩] 32)
      have hs1 := ba (Below.refl W1.heap.size W1) (.cells #[.int .i64 (-1), .string ⟨#[]⟩, .int .i64 2, .string ⟨MK.toArray⟩, .int .i64 (-1), .string ⟨#[]⟩] 32)
      have hbE := bt hbD hs1
      obtain ⟨g1, hg1⟩ : ∃ g, g = W1.heap.size := ⟨_, rfl⟩
      rw [← hg1] at hR1 ⊢
      generalize W1.alloc (.cells #[.int .i64 (-1), .string ⟨#[]⟩, .int .i64 2, .string ⟨MK.toArray⟩, .int .i64 (-1), .string ⟨#[]⟩] 32) = W2 at *
      refine wpAnyP_runs 14 (some 172) rfl rfl (by kernel_rfl) (by rfl) (exec_buildSlice rfl (run_lit80 W2 pa (some ⟨g1, 0, none⟩) po (some ⟨g2, 0, none⟩) al 3 ol 3 ca 3 co 3) (by simp only [List.map_toArray, List.map_cons, List.map_nil]; rfl)) (fun _ => hH.alloc _) ?_
      simp only [Act.put, List.setIfInBounds_toArray, List.set_cons_zero, List.set_cons_succ]
      have hh4 := hH.alloc (.cells #[Value.slice pa al ca, Value.slice (some ⟨g1, 0, none⟩) 3 3, Value.slice po ol co, Value.slice (some ⟨g2, 0, none⟩) 3 3] 30)
      have hn4 := Blk.newAt W2 30 #[Value.slice pa al ca, Value.slice (some ⟨g1, 0, none⟩) 3 3, Value.slice po ol co, Value.slice (some ⟨g2, 0, none⟩) 3 3] (g := W2.heap.size) rfl
      have hs4 := ba (Below.refl W2.heap.size W2) (.cells #[Value.slice pa al ca, Value.slice (some ⟨g1, 0, none⟩) 3 3, Value.slice po ol co, Value.slice (some ⟨g2, 0, none⟩) 3 3] 30)
      have hb4 := bt hbE hs4
      have hB1 := CRow.below hR1 hs4
      have hB2 := CRow.below (CRow.below hR2 hs1) hs4
      generalize W2.alloc (.cells #[Value.slice pa al ca, Value.slice (some ⟨g1, 0, none⟩) 3 3, Value.slice po ol co, Value.slice (some ⟨g2, 0, none⟩) 3 3] 30) = W4 at *
      generalize W2.heap.size = g4 at *
      have hB3 : CRow 0 W4 (.slice pa al ca) A := by rw [HAL.out]; exact CRow.below hAw hb4
      have hB4 : CRow 0 W4 (.slice po ol co) O := by rw [HOL.out]; exact CRow.below hOw hb4
      refine wpAnyP_calls 15 (some 173) rfl rfl (by kernel_rfl) (by rfl) (exec_call rfl (by rfl) (by simp only [List.map_toArray, List.map_cons, List.map_nil]; rfl) (by rfl) (enters_of Try.func12 (by kernel_rfl) rfl)) (concat_any g4 4 _ _ W4 (crows4 hn4 hB3 hB1 hB4 hB2) (by have := HN.out; intro cs hcs; simp only [List.mem_cons, List.not_mem_nil, or_false] at hcs; rcases hcs with rfl | rfl | rfl | rfl <;> first | exact this.1 | exact this.2.1 | simp) (by simp) (by have := HN.out; simp [Pm.cntL]; omega) (by simp)) ?_
      rintro e W5 ⟨cv, rfl, hcv, hs5⟩
      refine ⟨_, rfl, fun _ => hh4.after hs5, ?_⟩
      simp only [Act.put, List.setIfInBounds_toArray, List.set_cons_zero, List.set_cons_succ]
      refine wpAnyP_runs 16 (some 23) rfl rfl (by kernel_rfl) (by rfl) (exec_move rfl (by rfl)) (fun h => absurd h (by omega)) ?_
      simp only [Act.put, List.setIfInBounds_toArray, List.set_cons_zero, List.set_cons_succ]
      refine wpAnyP_done (by kernel_rfl) ?_ _
      refine NoPanic.normal ?_
      refine hQ.out _ _ _ _ _ _ _ _ _ _ _ _ _ _ _ _ W5 cv ?_ (HL.out.after (bt hb4 hs5)) (Quiet.below (bt hb4 hs5))
      have := CRow.zero hcv
      rw [HMK.out] at this
      simpa using this
  trace_state
  · refine pick_runs (some 171) rfl rfl (by rfl) (exec_buildSlice rfl (run_lit30 w.drew (-1) 2 (-1) ⟨#[]⟩ ⟨(Pm.zeros 128).toArray⟩ ⟨#[]⟩) (by simp only [List.map_toArray, List.map_cons, List.map_nil]; rfl)) (fun _ => hH.alloc _) ?_
    simp only [Act.put, List.setIfInBounds_toArray, List.set_cons_zero, List.set_cons_succ]
    have hR2 := crow_new3 w.drew (Pm.zeros 128) (g := w.drew.heap.size) rfl
    have hH := hH.alloc (.cells #[.int .i64 (-1), .string ⟨#[]⟩, .int .i64 2, .string ⟨(Pm.zeros 128).toArray⟩, .int .i64 (-1), .string ⟨#[]⟩] 32)
    have hs2 := ba (Below.refl w.drew.heap.size w.drew) (.cells #[.int .i64 (-1), .string ⟨#[]⟩, .int .i64 2, .string ⟨(Pm.zeros 128).toArray⟩, .int .i64 (-1), .string ⟨#[]⟩] 32)
    have hbC := bt hb0 hs2
    obtain ⟨g2, hg2⟩ : ∃ g, g = w.drew.heap.size := ⟨_, rfl⟩
    rw [← hg2] at hR2 ⊢
    generalize w.drew.alloc (.cells #[.int .i64 (-1), .string ⟨#[]⟩, .int .i64 2, .string ⟨(Pm.zeros 128).toArray⟩, .int .i64 (-1), .string ⟨#[]⟩] 32) = W1 at *
    refine wpAnyP_calls 4 (some 162) rfl rfl (by kernel_rfl) (by rfl) (exec_call rfl (by rfl) (by simp only [List.map_toArray, List.map_cons, List.map_nil]; rfl) (by rfl) (enters_of Try.func7 (by kernel_rfl) rfl)) (HM.out W1 (hI0.below hs2)) ?_
    rintro e x1 ⟨rfl, hsC⟩
    have hH := hH.after hsC
    have hbD := bt hbC hsC
    refine ⟨_, rfl, fun _ => hH, ?_⟩
    simp only [Act.put, List.setIfInBounds_toArray, List.set_cons_zero, List.set_cons_succ]
    refine wpAnyP_take 5 (some 163) (v := ?_) rfl rfl (by kernel_rfl) (fun _ _ _ h => h) hH (Or.inl ⟨by rfl, ?_⟩) ?_
    rotate_left
    · (intro w_ hSw; go_simp; try with_reducible rfl)
    simp only [Act.put, List.setIfInBounds_toArray, List.set_cons_zero, List.set_cons_succ]
    refine wpAnyP_runs 7 (some 165) rfl rfl (by kernel_rfl) (by rfl) (exec_buildSlice rfl (run_lit30 x1 (-1) 2 (-1) ⟨#[]⟩ ⟨MK.toArray⟩ ⟨#[]⟩) (by simp only [List.map_toArray, List.map_cons, List.map_nil]; rfl)) (fun _ => hH.alloc _) ?_
    simp only [Act.put, List.setIfInBounds_toArray, List.set_cons_zero, List.set_cons_succ]
    have hR1 := crow_new3 x1 MK (g := x1.heap.size) rfl
    have hH := hH.alloc (.cells #[.int .i64 (-1), .string ⟨#[]⟩, .int .i64 2, .string ⟨MK.toArray⟩, .int .i64 (-1), .string ⟨#[]⟩] 32)
    have hs1 := ba (Below.refl x1.heap.size x1) (.cells #[.int .i64 (-1), .string ⟨#[]⟩, .int .i64 2, .string ⟨MK.toArray⟩, .int .i64 (-1), .string ⟨#[]⟩] 32)
    have hbE := bt hbD hs1
    obtain ⟨g1, hg1⟩ : ∃ g, g = x1.heap.size := ⟨_, rfl⟩
    rw [← hg1] at hR1 ⊢
    generalize x1.alloc (.cells #[.int .i64 (-1), .string ⟨#[]⟩, .int .i64 2, .string ⟨MK.toArray⟩, .int .i64 (-1), .string ⟨#[]⟩] 32) = W2 at *
    refine wpAnyP_runs 14 (some 172) rfl rfl (by kernel_rfl) (by rfl) (exec_buildSlice rfl (run_lit80 W2 pa (some ⟨g1, 0, none⟩) po (some ⟨g2, 0, none⟩) al 3 ol 3 ca 3 co 3) (by simp only [List.map_toArray, List.map_cons, List.map_nil]; rfl)) (fun _ => hH.alloc _) ?_
    simp only [Act.put, List.setIfInBounds_toArray, List.set_cons_zero, List.set_cons_succ]
    have hh4 := hH.alloc (.cells #[Value.slice pa al ca, Value.slice (some ⟨g1, 0, none⟩) 3 3, Value.slice po ol co, Value.slice (some ⟨g2, 0, none⟩) 3 3] 30)
    have hn4 := Blk.newAt W2 30 #[Value.slice pa al ca, Value.slice (some ⟨g1, 0, none⟩) 3 3, Value.slice po ol co, Value.slice (some ⟨g2, 0, none⟩) 3 3] (g := W2.heap.size) rfl
    have hs4 := ba (Below.refl W2.heap.size W2) (.cells #[Value.slice pa al ca, Value.slice (some ⟨g1, 0, none⟩) 3 3, Value.slice po ol co, Value.slice (some ⟨g2, 0, none⟩) 3 3] 30)
    have hb4 := bt hbE hs4
    have hB1 := CRow.below hR1 hs4
    have hB2 := CRow.below (CRow.below (CRow.below hR2 hsC) hs1) hs4
    generalize W2.alloc (.cells #[Value.slice pa al ca, Value.slice (some ⟨g1, 0, none⟩) 3 3, Value.slice po ol co, Value.slice (some ⟨g2, 0, none⟩) 3 3] 30) = W4 at *
    generalize W2.heap.size = g4 at *
    have hB3 : CRow 0 W4 (.slice pa al ca) A := by rw [HAL.out]; exact CRow.below hAw hb4
    have hB4 : CRow 0 W4 (.slice po ol co) O := by rw [HOL.out]; exact CRow.below hOw hb4
    refine wpAnyP_calls 15 (some 173) rfl rfl (by kernel_rfl) (by rfl) (exec_call rfl (by rfl) (by simp only [List.map_toArray, List.map_cons, List.map_nil]; rfl) (by rfl) (enters_of Try.func12 (by kernel_rfl) rfl)) (concat_any g4 4 _ _ W4 (crows4 hn4 hB3 hB1 hB4 hB2) (by have := HN.out; intro cs hcs; simp only [List.mem_cons, List.not_mem_nil, or_false] at hcs; rcases hcs with rfl | rfl | rfl | rfl <;> first | exact this.1 | exact this.2.1 | simp) (by simp) (by have := HN.out; simp [Pm.cntL]; omega) (by simp)) ?_
    rintro e W5 ⟨cv, rfl, hcv, hs5⟩
    refine ⟨_, rfl, fun _ => hh4.after hs5, ?_⟩
    simp only [Act.put, List.setIfInBounds_toArray, List.set_cons_zero, List.set_cons_succ]
    refine wpAnyP_runs 16 (some 23) rfl rfl (by kernel_rfl) (by rfl) (exec_move rfl (by rfl)) (fun h => absurd h (by omega)) ?_
    simp only [Act.put, List.setIfInBounds_toArray, List.set_cons_zero, List.set_cons_succ]
    refine wpAnyP_done (by kernel_rfl) ?_ _
    refine NoPanic.normal ?_
    refine hQ.out _ _ _ _ _ _ _ _ _ _ _ _ _ _ _ _ W5 cv ?_ (HL.out.after (bt hb4 hs5)) (Quiet.below (bt hb4 hs5))
    have := CRow.zero hcv
    rw [HMK.out] at this
    simpa using this
end Go.Proofs.Ytkbjmgenceghlaa
