/- A round over the fuses, from the fuse on: what a repair leaves is what by hand it must. -/
import Derived.Test.YtkbjmgenceghlaaV0
namespace Go.Proofs.Ytkbjmgenceghlaa
open Go.RowKit
attribute [local go_sem ↓] Go.wp_at_zero Go.wp_at_succ
/-- sectors by hand, joined -/
theorem join_any (u : List (List UInt8)) (gs : Nat) (hu : u.length ≤ 1000) (h1 : 1 ≤ u.length) (hs : ∀ s ∈ u, s.length ≤ 128) : ∀ W bx, SureAt W bx gs u → Calls Try.prog 17 #[.slice (some ⟨gs, 0, none⟩) u.length u.length, .string ⟨#[]⟩] W fun e w' => e = .returned (.string ⟨u.flatten.toArray⟩) ∧ Below W.heap.size W w' := by
  intro W bx hS
  have hfl : u.flatten.length ≤ u.length * 128 := by
    clear hS h1 hu
    induction u with
    | nil => simp
    | cons x u ih =>
      have h1 := hs x (by simp)
      have h2 := ih (fun s hs' => hs s (by simp [hs']))
      rw [List.flatten_cons, List.length_append, List.length_cons, Nat.succ_mul]
      omega
  have hm : (u.map fun s => ByteArray.mk s.toArray).map (·.data.toList) = u := by
    rw [List.map_map]
    conv => rhs; rw [← List.map_id u]
    apply List.map_congr_left
    intro x _
    simp
  have h := Try.strings_Join gs 0 u.length (u.map fun s => ByteArray.mk s.toArray) ⟨#[]⟩ W (fun j x hx => by
    rw [List.getElem?_map] at hx
    cases hj : u[j]? with
    | none => rw [hj] at hx; cases hx
    | some s =>
      rw [hj] at hx
      injection hx with hx
      subst hx
      rw [Nat.zero_add, hS.row.cell]
      unfold sureArr
      simp [hj, strCell]) hS.row.lt (by simp; omega) (by simp) (by rw [hm]; show (Lib.join u []).length ≤ _; rw [join_flat]; omega)
  rw [hm, List.length_map] at h
  have e : Lib.join u (ByteArray.mk #[]).data.toList = u.flatten := join_flat u
  rw [e] at h
  exact h
/-- what a repair hands back, and leaves -/
def Fixes (base d : Nat) (f nb : Nat) (due : Int) (keep : List Bool) (u u' : List (List UInt8)) : Prop :=
  ∀ W, IsDisk W base d ⟨u, [], f⟩ → Calls Try.prog 18 #[.pointer (some ⟨d, 0, none⟩), .int .i64 2, .int .i64 35] W fun e w' => ∃ (got err : Int) (E : Pm.Dk), e = .returned (.tuple #[.int .i64 got, .int .i64 err]) ∧ IsDisk w' base d E ∧ Kept base W w' ∧ Pm.puts E.sure (Pm.keepL E.loose keep) = u' ∧
    (f ≠ 0 → (nb ≤ f → err = 0 ∧ got = due) ∧ (¬ nb ≤ f → err = 40))
set_option maxRecDepth 1000000 in
set_option maxHeartbeats 4000000 in
theorem law_fix2 {u0 u1 u2 u4 u6 u8 u11 u12 u13 u14 u15 u16 u17 u18 u19 u20 u21 u22 u23 u24 u25 u26 u27 u31 u32 u33 u34 u35 u36 u37 u38 u39 u40 u41 u42 u43 u44 u45 u46 u47 u48 u49 u50 u51 u52 u53 u54 u55 u56 u57 u58 u59 u60 u61 u62 u63 u64 u65 u66 u67 u68 u69 u70 u71 u72 u73 u74 u75 u76 u77 u78 u79 u80 u81 u82 u83 u84 u85 u86 u87 u88 u89 u90 u91 u92 u93 u94 u95 u96 u97 u98 u99 u100 u101 u102 u103 u104 u105 u106 u107 u108 u109 u110 u111 u112 u113 u114 u115 u116 u117 u118 u119 u120 u121 u122 u123 u124 u125 u126 u127 u128 u129 u130 u131 u132 u133 u134 u135 u136 u137 u138 u139 u140 u141 u142 u143 u144 u145 u146 u147 u148 u149 u150 u151 u152 u153 u154 u155 u156 u157 u158 u159 u160 u161 u162 u163 u164 u165 u166 u167 u168 u169 u170 u171 u172 u173 u174 u175 u176 u177 u178 u179 u180 u181 u182 u183 u184 u185 u186 u187 u188 u189 u190 u191 u192 u193 u194 u195 u196 u197 u198 u199 u200 u201 u202 u203 u204 u205 u206 u207 u208 u209 u210 u211 u212 u213 u214 u215 u216 u217 u218 u219 u220 u221 u222 u223 u224 u225 u226 u227 u228 u229 u230 u231 u232 u233 u234 u235 u236 u237 u238 u239 u240 u241 u242 u243 u244 u245 u246 u247 u248 u249 u250 u251 u252 u253 u254 u255 u256 u257 u258 u259 u260 u261 u262 u263 u264 u265 u266 u267 u268 u269 u270 u271 u272 u273 u274 u275 u276 u277 u278 u279 u280 u281 u282 u283 u284 u285 u286 u287 u288 u289 u290 u291 u292 u293 u294 u295 u296 u297 u298 u299 u300 u301 u302 u303 u304 u305 u306 u307 u308 u309 u310 u311 u312 u313 u314 u315 u316 u317 u318 u319 u320 u321 u322 u323 u324 u325 u326 u327 u328 u329 u330 u331 u332 u333 u334 u335 u336 u337 u338 u339 u340 u341 u342 u343 u344 u345 u346 u347 u348 u349 u350 u351 : Value} (base d bx gs bk f : Nat) (due : Int) (bv kv : Value) (keep : List Bool) (u u' : List (List UInt8)) (bcs : List Pm.Cl) (w0 w : World) (Q : Exit → Act → World → Prop)
    (hL : LawAt base w0 w d bx gs bk kv keep ⟨u, [], -1⟩ u) (hB : CRow 0 w bv bcs) (hlen : bcs.length ≤ 100) (hf : f ≤ 100) (hok : ∀ c ∈ bcs, c.ok u.length) (hu : u.length ≤ 1000) (hun : 1 ≤ u.length) (hkl : keep.length ≤ 9223372036854775807) (hdue : 0 ≤ due ∧ due ≤ 100)
    (hrep : Fixes base d f bcs.length due keep u u') (hu' : u' = Pm.runsOf u bcs f keep)
    (hQ : ∀ (v29 v30 v34 v35 v36 v269 v270 v271 v272 v273 v274 v275 v276 v277 v278 v279 v280 v281 v282 v283 v284 v285 v286 v287 v288 v289 v290 v291 v292 v293 v294 v295 v296 v297 v298 v299 v300 v301 v302 v303 v304 v305 v306 v307 v308 v309 v310 v311 v312 v313 v314 v315 v316 v317 v318 v319 v320 v321 : Value) (w' : World), LawAt base w0 w' d bx gs bk kv keep ⟨u', [], -1⟩ u' → Quiet gs w w' → Q .normal ⟨List.toArray (u0 :: u1 :: u2 :: Value.pointer (some ⟨bk, 0, none⟩) :: u4 :: Value.pointer (some ⟨d, 0, none⟩) :: u6 :: Value.pointer (some ⟨bx, 0, none⟩) :: u8 :: Value.string ⟨(Pm.zeros 128).toArray⟩ :: Value.func (.func 6) #[] #[.pointer (some ⟨bx, 0, none⟩), .pointer (some ⟨bk, 0, none⟩)] :: u11 :: u12 :: u13 :: u14 :: u15 :: u16 :: u17 :: u18 :: u19 :: u20 :: u21 :: u22 :: u23 :: u24 :: u25 :: u26 :: u27 :: Value.int .i64 f :: v29 :: v30 :: u31 :: u32 :: u33 :: v34 :: v35 :: v36 :: u37 :: u38 :: u39 :: u40 :: u41 :: u42 :: u43 :: u44 :: u45 :: u46 :: u47 :: u48 :: u49 :: u50 :: u51 :: u52 :: u53 :: u54 :: u55 :: u56 :: u57 :: u58 :: u59 :: u60 :: u61 :: u62 :: u63 :: u64 :: u65 :: u66 :: u67 :: u68 :: u69 :: u70 :: u71 :: u72 :: u73 :: u74 :: u75 :: u76 :: u77 :: u78 :: u79 :: u80 :: u81 :: u82 :: u83 :: u84 :: u85 :: u86 :: u87 :: u88 :: u89 :: u90 :: u91 :: u92 :: u93 :: u94 :: u95 :: u96 :: u97 :: u98 :: u99 :: u100 :: u101 :: u102 :: u103 :: u104 :: u105 :: u106 :: u107 :: u108 :: u109 :: u110 :: u111 :: u112 :: u113 :: u114 :: u115 :: u116 :: u117 :: u118 :: u119 :: u120 :: u121 :: u122 :: u123 :: u124 :: u125 :: u126 :: u127 :: u128 :: u129 :: u130 :: u131 :: u132 :: u133 :: u134 :: u135 :: u136 :: u137 :: u138 :: u139 :: u140 :: u141 :: u142 :: u143 :: u144 :: u145 :: u146 :: u147 :: u148 :: u149 :: u150 :: u151 :: u152 :: u153 :: u154 :: u155 :: u156 :: u157 :: u158 :: u159 :: u160 :: u161 :: u162 :: u163 :: u164 :: u165 :: u166 :: u167 :: u168 :: u169 :: u170 :: u171 :: u172 :: u173 :: u174 :: u175 :: u176 :: u177 :: u178 :: u179 :: u180 :: u181 :: u182 :: u183 :: u184 :: u185 :: u186 :: u187 :: u188 :: u189 :: u190 :: u191 :: u192 :: u193 :: u194 :: u195 :: u196 :: u197 :: u198 :: u199 :: u200 :: u201 :: u202 :: u203 :: u204 :: u205 :: u206 :: u207 :: u208 :: u209 :: u210 :: u211 :: u212 :: u213 :: u214 :: u215 :: u216 :: u217 :: u218 :: u219 :: u220 :: u221 :: u222 :: u223 :: u224 :: u225 :: u226 :: u227 :: u228 :: u229 :: u230 :: u231 :: u232 :: u233 :: u234 :: u235 :: u236 :: u237 :: u238 :: u239 :: u240 :: u241 :: u242 :: u243 :: u244 :: u245 :: u246 :: u247 :: u248 :: u249 :: u250 :: u251 :: u252 :: u253 :: u254 :: u255 :: u256 :: u257 :: u258 :: u259 :: u260 :: u261 :: u262 :: u263 :: u264 :: u265 :: u266 :: u267 :: u268 :: v269 :: v270 :: v271 :: v272 :: v273 :: v274 :: v275 :: v276 :: v277 :: v278 :: v279 :: v280 :: v281 :: v282 :: v283 :: v284 :: v285 :: v286 :: v287 :: v288 :: v289 :: v290 :: v291 :: v292 :: v293 :: v294 :: v295 :: v296 :: v297 :: v298 :: v299 :: v300 :: v301 :: v302 :: v303 :: v304 :: v305 :: v306 :: v307 :: v308 :: v309 :: v310 :: v311 :: v312 :: v313 :: v314 :: v315 :: v316 :: v317 :: v318 :: v319 :: v320 :: v321 :: u322 :: u323 :: u324 :: u325 :: u326 :: u327 :: u328 :: u329 :: u330 :: u331 :: u332 :: u333 :: u334 :: u335 :: u336 :: u337 :: u338 :: u339 :: u340 :: u341 :: u342 :: u343 :: u344 :: u345 :: u346 :: u347 :: u348 :: u349 :: u350 :: u351 :: []), []⟩ w') :
    Code.wp Try.prog (cDrop 4 fixRound) Q ⟨List.toArray (u0 :: u1 :: u2 :: Value.pointer (some ⟨bk, 0, none⟩) :: u4 :: Value.pointer (some ⟨d, 0, none⟩) :: u6 :: Value.pointer (some ⟨bx, 0, none⟩) :: u8 :: Value.string ⟨(Pm.zeros 128).toArray⟩ :: Value.func (.func 6) #[] #[.pointer (some ⟨bx, 0, none⟩), .pointer (some ⟨bk, 0, none⟩)] :: u11 :: u12 :: u13 :: u14 :: u15 :: u16 :: u17 :: u18 :: u19 :: u20 :: u21 :: u22 :: u23 :: u24 :: u25 :: u26 :: u27 :: Value.int .i64 f :: bv :: Value.int .i64 due :: u31 :: u32 :: u33 :: u34 :: u35 :: u36 :: u37 :: u38 :: u39 :: u40 :: u41 :: u42 :: u43 :: u44 :: u45 :: u46 :: u47 :: u48 :: u49 :: u50 :: u51 :: u52 :: u53 :: u54 :: u55 :: u56 :: u57 :: u58 :: u59 :: u60 :: u61 :: u62 :: u63 :: u64 :: u65 :: u66 :: u67 :: u68 :: u69 :: u70 :: u71 :: u72 :: u73 :: u74 :: u75 :: u76 :: u77 :: u78 :: u79 :: u80 :: u81 :: u82 :: u83 :: u84 :: u85 :: u86 :: u87 :: u88 :: u89 :: u90 :: u91 :: u92 :: u93 :: u94 :: u95 :: u96 :: u97 :: u98 :: u99 :: u100 :: u101 :: u102 :: u103 :: u104 :: u105 :: u106 :: u107 :: u108 :: u109 :: u110 :: u111 :: u112 :: u113 :: u114 :: u115 :: u116 :: u117 :: u118 :: u119 :: u120 :: u121 :: u122 :: u123 :: u124 :: u125 :: u126 :: u127 :: u128 :: u129 :: u130 :: u131 :: u132 :: u133 :: u134 :: u135 :: u136 :: u137 :: u138 :: u139 :: u140 :: u141 :: u142 :: u143 :: u144 :: u145 :: u146 :: u147 :: u148 :: u149 :: u150 :: u151 :: u152 :: u153 :: u154 :: u155 :: u156 :: u157 :: u158 :: u159 :: u160 :: u161 :: u162 :: u163 :: u164 :: u165 :: u166 :: u167 :: u168 :: u169 :: u170 :: u171 :: u172 :: u173 :: u174 :: u175 :: u176 :: u177 :: u178 :: u179 :: u180 :: u181 :: u182 :: u183 :: u184 :: u185 :: u186 :: u187 :: u188 :: u189 :: u190 :: u191 :: u192 :: u193 :: u194 :: u195 :: u196 :: u197 :: u198 :: u199 :: u200 :: u201 :: u202 :: u203 :: u204 :: u205 :: u206 :: u207 :: u208 :: u209 :: u210 :: u211 :: u212 :: u213 :: u214 :: u215 :: u216 :: u217 :: u218 :: u219 :: u220 :: u221 :: u222 :: u223 :: u224 :: u225 :: u226 :: u227 :: u228 :: u229 :: u230 :: u231 :: u232 :: u233 :: u234 :: u235 :: u236 :: u237 :: u238 :: u239 :: u240 :: u241 :: u242 :: u243 :: u244 :: u245 :: u246 :: u247 :: u248 :: u249 :: u250 :: u251 :: u252 :: u253 :: u254 :: u255 :: u256 :: u257 :: u258 :: u259 :: u260 :: u261 :: u262 :: u263 :: u264 :: u265 :: u266 :: u267 :: u268 :: u269 :: u270 :: u271 :: u272 :: u273 :: u274 :: u275 :: u276 :: u277 :: u278 :: u279 :: u280 :: u281 :: u282 :: u283 :: u284 :: u285 :: u286 :: u287 :: u288 :: u289 :: u290 :: u291 :: u292 :: u293 :: u294 :: u295 :: u296 :: u297 :: u298 :: u299 :: u300 :: u301 :: u302 :: u303 :: u304 :: u305 :: u306 :: u307 :: u308 :: u309 :: u310 :: u311 :: u312 :: u313 :: u314 :: u315 :: u316 :: u317 :: u318 :: u319 :: u320 :: u321 :: u322 :: u323 :: u324 :: u325 :: u326 :: u327 :: u328 :: u329 :: u330 :: u331 :: u332 :: u333 :: u334 :: u335 :: u336 :: u337 :: u338 :: u339 :: u340 :: u341 :: u342 :: u343 :: u344 :: u345 :: u346 :: u347 :: u348 :: u349 :: u350 :: u351 :: []), []⟩ w := by
  conv => arg 2; whnf
  have HF := Lib.hid (fuse_any f w base d _ hL.disk (by omega))
  obtain ⟨p, c, rfl⟩ := hB.shape
  obtain ⟨n, hn⟩ : ∃ n, n = bcs.length := ⟨_, rfl⟩
  rw [← hn] at hlen hrep
  have HN := Lib.hid hn
  replace hrep := Lib.hid hrep
  replace hok := Lib.hid hok
  replace hQ := Lib.hid hQ
  have HU := Lib.hid hu'
  have HBN : CRow 0 w (.slice p n c) bcs := by rw [hn]; exact hB
  rw [← hn]
  clear hn hu' hB
  go_wp2_with fail
  refine (HF.out).mono ?_
  rintro e w1 ⟨rfl, hI1, hK1⟩
  have hL1 := hL.kept hK1 hI1
  have q1 : Quiet gs w w1 := Quiet.kept hK1
  have hB1 := HBN.holds hK1.holds
  have HR := Lib.hid (runs_any bcs f bx bk gs _ kv keep u w1 base hB1 hL1.sure hL1.box hL1.keep hL1.hgs hok.out (by have := HN.out; omega) (by omega) (by omega) hkl)
  clear HF hL hI1 hK1 HBN hB1
  rw [← HN.out] at HR
  go_wp2_with fail
  refine (HR.out).mono ?_
  rintro e w2 ⟨rfl, hS2, hO2⟩
  rw [← HU.out] at hS2
  have hL2 := hL1.only hO2 hS2
  have q2 : Quiet gs w w2 := q1.trans (Quiet.only hO2)
  clear HR hL1 hO2 hS2
  have HRP := Lib.hid (hrep.out w2 hL2.disk)
  go_wp2_with fail
  refine (HRP.out).mono ?_
  rintro e w3 ⟨got, err, E, rfl, hI3, hK3, hE, hck⟩
  have hL3 := hL2.kept hK3 hI3
  have q3 : Quiet gs w w3 := q2.trans (Quiet.kept hK3)
  replace hck := Lib.hid hck
  have HE := Lib.hid hE
  clear hL2 hI3 hK3 HRP hE
  obtain ⟨kp, kc, hkv⟩ : ∃ kp kc, kv = .slice kp keep.length kc := by
    obtain ⟨kp, kc, e, _⟩ := hL3.keep
    exact ⟨kp, kc, e⟩
  subst hkv
  have HCR : Calls Try.prog 15 #[.pointer (some ⟨d, 0, none⟩), .slice kp keep.length kc] w3.drew fun e w' => e = .returned (.int .i64 0) ∧ IsDisk w' base d ⟨u', [], -1⟩ ∧ Kept base w3.drew w' := by
    have := crash_any w3.drew base d E _ keep (hL3.disk.below (bd (Below.refl _ _))) (hL3.keep.kept (Kept.below (bd (Below.refl _ _)))) hkl
    rwa [HE.out] at this
  replace HCR := Lib.hid HCR
  have HSU : ∀ W, IsDisk W base d ⟨u', [], -1⟩ → Calls Try.prog 16 #[.pointer (some ⟨d, 0, none⟩)] W fun e w' => e = .returned (.string ⟨u'.flatten.toArray⟩) ∧ Below W.heap.size W w' := fun W hW => sure_any W base d _ hW
  replace HSU := Lib.hid HSU
  have hu'l : u'.length = u.length := by rw [HU.out]; exact Pm.runsOf_length _ _ _ _
  have hu's : ∀ s ∈ u', s.length ≤ 128 := fun s hs => Nat.le_of_eq ((hL3.disk.ok.crashed keep).secs s (by rw [HE.out]; exact hs))
  have HJO := Lib.hid (join_any u' gs (by omega) (by omega) hu's)
  clear hu'l hu's
  go_wp2_with fail
  have hS0 : Blk w3.drew bk 23 #[.slice kp keep.length kc] ∧ Blk w3.drew bx 28 #[.slice (some ⟨gs, 0, none⟩) u'.length u'.length] := ⟨hL3.box.drew, hL3.sure.box.drew⟩
  refine wp_region_noPanic ?_
  refine wp_region_phase 11 (fun w' => Blk w' bk 23 #[.slice kp keep.length kc] ∧ Blk w' bx 28 #[.slice (some ⟨gs, 0, none⟩) u'.length u'.length]) (by kernel_rfl) hS0 (fun hH => ?_)
  refine wpAnyP_take 0 (some 282) (v := ?_) rfl rfl (by kernel_rfl) (fun _ _ _ h => h) hH (Or.inl ⟨by rfl, ?_⟩) ?_
  rotate_left
  · (intro w_ hSw; go_simp; try with_reducible rfl)
  simp only [Act.put, List.setIfInBounds_toArray, List.set_cons_zero, List.set_cons_succ]
  refine wpAnyP_take 1 (some 283) (v := ?_) rfl rfl (by kernel_rfl) (fun _ _ _ h => h) hH (Or.inl ⟨by rfl, ?_⟩) ?_
  rotate_left
  · (intro w_ hSw; have cS := hSw.1.cell; go_simp; try with_reducible rfl)
  simp only [Act.put, List.setIfInBounds_toArray, List.set_cons_zero, List.set_cons_succ]
  refine wpAnyP_calls 2 (some 284) rfl rfl (by kernel_rfl) (by rfl) (exec_call rfl (by rfl) (by simp only [List.map_toArray, List.map_cons, List.map_nil]; rfl) (by rfl) (enters_of Try.func15 (by kernel_rfl) rfl)) (HCR.out) ?_
  rintro e x1 ⟨rfl, hI5, hK5⟩
  have hL5 := hL3.kept ((Kept.below (bd (Below.refl _ _))).trans hK5) hI5
  have hH := And.intro (hK5.blk hH.1 rfl) (hK5.blk hH.2 rfl)
  refine ⟨_, rfl, fun _ => hH, ?_⟩
  simp only [Act.put, List.setIfInBounds_toArray, List.set_cons_zero, List.set_cons_succ]
  refine wpAnyP_take 3 (some 285) (v := ?_) rfl rfl (by kernel_rfl) (fun _ _ _ h => h) hH (Or.inl ⟨by rfl, ?_⟩) ?_
  rotate_left
  · (intro w_ hSw; go_simp; try with_reducible rfl)
  simp only [Act.put, List.setIfInBounds_toArray, List.set_cons_zero, List.set_cons_succ]
  refine wpAnyP_take 4 (some 286) (v := ?_) rfl rfl (by kernel_rfl) (fun _ _ _ h => h) hH (Or.inl ⟨by rfl, ?_⟩) ?_
  rotate_left
  · (intro w_ hSw; go_simp; try with_reducible rfl)
  simp only [Act.put, List.setIfInBounds_toArray, List.set_cons_zero, List.set_cons_succ]
  refine wpAnyP_take 5 (some 287) (v := ?_) rfl rfl (by kernel_rfl) (fun _ _ _ h => h) hH (Or.inl ⟨by rfl, ?_⟩) ?_
  rotate_left
  · (intro w_ hSw; go_simp; try with_reducible rfl)
  simp only [Act.put, List.setIfInBounds_toArray, List.set_cons_zero, List.set_cons_succ]
  refine wpAnyP_take 7 (some 289) (v := ?_) rfl rfl (by kernel_rfl) (fun _ _ _ h => h) hH (Or.inl ⟨by rfl, ?_⟩) ?_
  rotate_left
  · (intro w_ hSw; have cS := hSw.2.cell; go_simp; try with_reducible rfl)
  simp only [Act.put, List.setIfInBounds_toArray, List.set_cons_zero, List.set_cons_succ]
  refine wpAnyP_calls 6 (some 288) rfl rfl (by kernel_rfl) (by rfl) (exec_call rfl (by rfl) (by simp only [List.map_toArray, List.map_cons, List.map_nil]; rfl) (by rfl) (enters_of Try.func16 (by kernel_rfl) rfl)) (HSU.out x1 hL5.disk) ?_
  rintro e x2 ⟨rfl, hb6⟩
  have hH := And.intro (hH.1.after hb6) (hH.2.after hb6)
  have hL6 := hL5.after hb6
  refine ⟨_, rfl, fun _ => hH, ?_⟩
  simp only [Act.put, List.setIfInBounds_toArray, List.set_cons_zero, List.set_cons_succ]
  refine wpAnyP_calls 8 (some 290) rfl rfl (by kernel_rfl) (by rfl) (exec_call rfl (by rfl) (by simp only [List.map_toArray, List.map_cons, List.map_nil]; rfl) (by rfl) (enters_of Try.func17 (by kernel_rfl) rfl)) (HJO.out x2 _ hL6.sure) ?_
  rintro e x3 ⟨rfl, hb7⟩
  have hH := And.intro (hH.1.after hb7) (hH.2.after hb7)
  have hL7 := hL6.after hb7
  refine ⟨_, rfl, fun _ => hH, ?_⟩
  simp only [Act.put, List.setIfInBounds_toArray, List.set_cons_zero, List.set_cons_succ]
  refine wpAnyP_take 9 (some 291) (v := ?_) rfl rfl (by kernel_rfl) (fun _ _ _ h => h) hH (Or.inl ⟨by rfl, ?_⟩) ?_
  rotate_left
  · (intro w_ hSw; go_simp; try with_reducible rfl)
  simp only [Act.put, List.setIfInBounds_toArray, List.set_cons_zero, List.set_cons_succ]
  refine wpAnyP_take 10 (some 292) (v := ?_) rfl rfl (by kernel_rfl) (fun _ _ _ h => h) hH (Or.inl ⟨by rfl, ?_⟩) ?_
  rotate_left
  · (intro w_ hSw; go_simp; try with_reducible rfl)
  simp only [Act.put, List.setIfInBounds_toArray, List.set_cons_zero, List.set_cons_succ]
  refine wpAnyP_done (by kernel_rfl) ?_ _
  have q7 : Quiet gs w x3 := ((q3.trans (Quiet.kept ((Kept.below (bd (Below.refl _ _))).trans hK5))).trans (Quiet.below hb6)).trans (Quiet.below hb7)
  clear hH hL3 hL5 hL6 hI5 hK5 hb6 hb7 HCR HSU HJO q3 q2 q1
  refine NoPanic.normal ?_
  by_cases hf0 : f = 0
  · subst hf0
    obtain ⟨bb, hbb⟩ : ∃ bb, bb = decide (n ≤ 0) := ⟨_, rfl⟩
    rw [← hbb]
    clear hbb
    have d0 : decide ((0 : Int) < ((0 : Nat) : Int)) = false := by simp
    by_cases hn0 : n = 0
    · subst hn0
      go_wp2_with fail
      exact hQ.out _ _ _ _ _ _ _ _ _ _ _ _ _ _ _ _ _ _ _ _ _ _ _ _ _ _ _ _ _ _ _ _ _ _ _ _ _ _ _ _ _ _ _ _ _ _ _ _ _ _ _ _ _ _ _ _ _ _ _ hL7 q7
    · have hnb : ((n : Int) == 0) = false := beq_eq_false_iff_ne.2 (by omega)
      clear hn0
      go_wp2_with fail
      exact hQ.out _ _ _ _ _ _ _ _ _ _ _ _ _ _ _ _ _ _ _ _ _ _ _ _ _ _ _ _ _ _ _ _ _ _ _ _ _ _ _ _ _ _ _ _ _ _ _ _ _ _ _ _ _ _ _ _ _ _ _ hL7 q7
  · have d0 : decide ((0 : Int) < (f : Int)) = true := by simp; omega
    have d1 : decide (0 < f) = true := by simp; omega
    by_cases hnf : n ≤ f
    · obtain ⟨rfl, rfl⟩ := (hck.out hf0).1 hnf
      have d2 : decide (n ≤ f) = true := by simp; exact hnf
      rw [d2]
      clear hnf hf0 d2
      go_wp2_with fail
      exact hQ.out _ _ _ _ _ _ _ _ _ _ _ _ _ _ _ _ _ _ _ _ _ _ _ _ _ _ _ _ _ _ _ _ _ _ _ _ _ _ _ _ _ _ _ _ _ _ _ _ _ _ _ _ _ _ _ _ _ _ _ hL7 q7
    · obtain rfl := (hck.out hf0).2 hnf
      have d2 : decide (n ≤ f) = false := by simp; omega
      rw [d2]
      clear hnf hf0 d2
      go_wp2_with fail
      exact hQ.out _ _ _ _ _ _ _ _ _ _ _ _ _ _ _ _ _ _ _ _ _ _ _ _ _ _ _ _ _ _ _ _ _ _ _ _ _ _ _ _ _ _ _ _ _ _ _ _ _ _ _ _ _ _ _ _ _ _ _ hL7 q7
end Go.Proofs.Ytkbjmgenceghlaa
