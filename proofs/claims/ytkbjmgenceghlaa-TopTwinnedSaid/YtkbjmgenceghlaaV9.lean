/- A page's sectors, behind the area's calls and the home's. -/
import Derived.Test.YtkbjmgenceghlaaV2
namespace Go.Proofs.Ytkbjmgenceghlaa
open Go.RowKit
attribute [local go_sem ↓] Go.wp_at_zero Go.wp_at_succ
noncomputable def pageRound : Code := cBlk (cFst (cDrop 2 (cLoop (cBlk (cSnd (cFst (cDrop 4 lawRound)))))))
theorem own_ne {w : World} {b b' n n' : Nat} {e e' : TypeId} {s s' : Nat} {v v' : Value} {xs xs' : List Value} (h1 : w.ownsRow b e s v n xs) (h2 : w.ownsRow b' e' s' v' n' xs') (he : e ≠ e') : v.ownBlock = none ∨ v.ownBlock ≠ v'.ownBlock := by
  cases hv : v.ownBlock with
  | none => exact .inl rfl
  | some g =>
    obtain ⟨_, _, _, _, hB, _⟩ := owns_blk h1 hv
    exact .inr (owns_ne_ty h2 hB he)
theorem owns_down {w : World} {b b' n : Nat} {e : TypeId} {s : Nat} {v : Value} {xs : List Value} (h : w.ownsRow b e s v n xs) (hb : b' ≤ b) : w.ownsRow b' e s v n xs := by
  refine ⟨h.1, ?_⟩
  rcases h.2 with hn | ⟨g, cap, cur, e, hbg, rest⟩
  · exact .inl hn
  · exact .inr ⟨g, cap, cur, e, Nat.le_trans hb hbg, rest⟩
/-- the rows of a round -/
structure HRows (base : Nat) (w0 wS w : World) (d bx gs bk : Nat) (kv : Value) (keep : List Bool) (u : List (List UInt8)) (hv iv av ov : Value) (hs : List (Nat × List UInt8)) (ids : List Nat) (A O : List Pm.Cl) : Prop where
  law : LawAt base w0 w d bx gs bk kv keep ⟨u, [], -1⟩ u
  quiet : Quiet gs wS w
  base_le : base ≤ wS.heap.size
  size : wS.heap.size ≤ w.heap.size
  homes : HomesAt wS.heap.size w hv hs
  ids : IdsAt wS.heap.size w iv ids
  area : CRow wS.heap.size w av A
  own : CRow wS.heap.size w ov O
  sep : ∀ g, av.ownBlock = some g → ov.ownBlock ≠ some g
section
variable {base : Nat} {w0 wS w w' : World} {d bx gs bk : Nat} {kv hv iv av ov v' : Value} {keep : List Bool} {u : List (List UInt8)} {hs hs' : List (Nat × List UInt8)} {ids ids' : List Nat} {A O A' : List Pm.Cl}
theorem HRows.below (h : HRows base w0 wS w d bx gs bk kv keep u hv iv av ov hs ids A O) (k : Below w.heap.size w w') : HRows base w0 wS w' d bx gs bk kv keep u hv iv av ov hs ids A O :=
  ⟨h.law.after k, h.quiet.trans (Quiet.below k), h.base_le, Nat.le_trans h.size k.size, h.homes.below k, h.ids.below k, CRow.below h.area k, CRow.below h.own k, h.sep⟩
theorem HRows.areaG (h : HRows base w0 wS w d bx gs bk kv keep u hv iv av ov hs ids A O) (k : w.grownBy w' av.ownBlock) (hr : CRow wS.heap.size w' v' A') (hw : v'.ownBlock = av.ownBlock ∨ v'.ownBlock = some w.heap.size) : HRows base w0 wS w' d bx gs bk kv keep u hv iv v' ov hs ids A' O :=
  ⟨h.law.grown k h.area rfl h.base_le rfl (by decide) (by decide) (by decide), h.quiet.grown k (fun r hr => (World.ownsRow.lt h.area r hr).1), h.base_le, Nat.le_trans h.size k.size, World.ownsRow.kept h.homes k (own_ne h.homes h.area (by decide)), World.ownsRow.kept h.ids k (own_ne h.ids h.area (by decide)), hr,
    World.ownsRow.kept h.own k (by
      cases ho : ov.ownBlock with
      | none => exact .inl rfl
      | some g => exact .inr (fun e => h.sep g e.symm ho)), fun g hg ho => by
      rcases hw with hw | hw
      · exact h.sep g (hw.symm.trans hg) ho
      · have := (World.ownsRow.lt h.own g ho).2
        rw [hw] at hg
        injection hg with hg
        omega⟩
theorem HRows.ownG (h : HRows base w0 wS w d bx gs bk kv keep u hv iv av ov hs ids A O) (k : w.grownBy w' ov.ownBlock) (hr : CRow wS.heap.size w' v' A') (hw : v'.ownBlock = ov.ownBlock ∨ v'.ownBlock = some w.heap.size) : HRows base w0 wS w' d bx gs bk kv keep u hv iv av v' hs ids A A' :=
  ⟨h.law.grown k h.own rfl h.base_le rfl (by decide) (by decide) (by decide), h.quiet.grown k (fun r hr => (World.ownsRow.lt h.own r hr).1), h.base_le, Nat.le_trans h.size k.size, World.ownsRow.kept h.homes k (own_ne h.homes h.own (by decide)), World.ownsRow.kept h.ids k (own_ne h.ids h.own (by decide)),
    World.ownsRow.kept h.area k (by
      cases ho : av.ownBlock with
      | none => exact .inl rfl
      | some g => exact .inr (fun e => h.sep g ho e.symm)), hr, fun g hg ho => by
      rcases hw with hw | hw
      · exact h.sep g hg (hw.symm.trans ho)
      · have := (World.ownsRow.lt h.area g hg).2
        rw [hw] at ho
        injection ho with ho
        omega⟩
theorem HRows.idsG (h : HRows base w0 wS w d bx gs bk kv keep u hv iv av ov hs ids A O) (k : w.grownBy w' iv.ownBlock) (hr : IdsAt wS.heap.size w' v' ids') : HRows base w0 wS w' d bx gs bk kv keep u hv v' av ov hs ids' A O :=
  ⟨h.law.grown k h.ids rfl h.base_le rfl (by decide) (by decide) (by decide), h.quiet.grown k (fun r hr => (World.ownsRow.lt h.ids r hr).1), h.base_le, Nat.le_trans h.size k.size, World.ownsRow.kept h.homes k (own_ne h.homes h.ids (by decide)), hr, World.ownsRow.kept h.area k (own_ne h.area h.ids (by decide)), World.ownsRow.kept h.own k (own_ne h.own h.ids (by decide)), h.sep⟩
theorem HRows.homesG (h : HRows base w0 wS w d bx gs bk kv keep u hv iv av ov hs ids A O) (k : w.grownBy w' hv.ownBlock) (hr : HomesAt wS.heap.size w' v' hs') : HRows base w0 wS w' d bx gs bk kv keep u v' iv av ov hs' ids A O :=
  ⟨h.law.grown k h.homes rfl h.base_le rfl (by decide) (by decide) (by decide), h.quiet.grown k (fun r hr => (World.ownsRow.lt h.homes r hr).1), h.base_le, Nat.le_trans h.size k.size, hr, World.ownsRow.kept h.ids k (own_ne h.ids h.homes (by decide)), World.ownsRow.kept h.area k (own_ne h.area h.homes (by decide)), World.ownsRow.kept h.own k (own_ne h.own h.homes (by decide)), h.sep⟩
end
theorem run_slice_sector' (l : List UInt8) (r : Nat) (W : World) (hl : l.length = 512) (hr : r < 4) : (Instr.sliceAt 9 (.string ⟨l.toArray⟩) (some (.int .i64 (128 * (r : Int)))) (some (.int .i64 (128 * (r : Int) + 128))) none).run Try.prog W = .ok (.string ⟨(Pm.part l r).toArray⟩) W := by
  have h := run_slice_sector l r W hl hr
  rw [show (r : Int) * 128 = 128 * (r : Int) by omega, show ((r : Int) + 1) * 128 = 128 * (r : Int) + 128 by omega] at h
  exact h
set_option maxRecDepth 1000000 in
set_option maxHeartbeats 8000000 in
theorem law_parts {u0 u1 u2 u4 u6 u8 u11 u12 u13 u18 u21 u22 u23 u24 u25 u26 u27 u28 u29 u30 u31 u32 u33 u34 u35 u36 u37 u38 u39 u40 u41 u42 u43 u44 u45 u46 u47 u48 u49 u50 u51 u52 u53 u54 u55 u56 u57 u58 u59 u60 u61 u62 u63 u64 u65 u66 u67 u68 u69 u70 u71 u72 u73 u74 u75 u76 u77 u78 u79 u80 u81 u82 u83 u84 u85 u86 u87 u88 u89 u90 u91 u92 u93 u94 u95 u96 u97 u98 u99 u100 u101 u102 u103 u104 u105 u106 u107 u108 u109 u110 u111 u112 u113 u114 u115 u116 u117 u118 u119 u120 u121 u122 u123 u124 u125 u126 u127 u128 u129 u130 u131 u132 u133 u134 u135 u136 u137 u138 u139 u140 u141 u142 u143 u144 u145 u146 u147 u148 u149 u150 u151 u152 u153 u154 u155 u156 u157 u158 u159 u160 u161 u162 u163 u164 u165 u166 u167 u168 u169 u170 u171 u172 u173 u174 u175 u176 u177 u178 u179 u180 u181 u182 u183 u184 u185 u186 u187 u188 u189 u190 u191 u192 u193 u194 u195 u196 u197 u198 u199 u200 u201 u202 u203 u204 u205 u206 u207 u208 u209 u210 u211 u212 u213 u214 u215 u216 u217 u218 u219 u220 u221 u222 u223 u224 u225 u226 u227 u228 u229 u230 u231 u232 u233 u234 u235 u236 u237 u238 u239 u240 u241 u242 u243 u244 u245 u246 u247 u248 u249 u250 u251 u252 u253 u254 u255 u256 u257 u258 u259 u260 u261 u262 u263 u264 u265 u266 u267 u268 u269 u270 u271 u272 u273 u274 u275 u276 u277 u278 u279 u280 u281 u282 u283 u284 u285 u286 u287 u288 u289 u290 u291 u292 u293 u294 u295 u296 u297 u298 u299 u300 u301 u302 u303 u304 u305 u306 u307 u308 u309 u310 u311 u312 u313 u314 u315 u316 u317 u318 u319 u320 u321 u322 u323 u324 u325 u326 u327 u328 u329 u330 u331 u332 u333 u334 u335 u336 u337 u338 u339 u340 u341 u342 u343 u344 u345 u346 u347 u348 u349 u350 u351 : Value} (base d bx gs bk p : Nat) (hv iv av ov kv : Value) (hs : List (Nat × List UInt8)) (ids : List Nat) (A O : List Pm.Cl) (pg : List UInt8) (keep : List Bool) (u : List (List UInt8)) (w0 wS w : World) (Q : Exit → Act → World → Prop)
    (hR : HRows base w0 wS w d bx gs bk kv keep u hv iv av ov hs ids A O) (hpg : pg.length = 512) (hp : p ≤ 12) (hn8 : ids.length ≤ 8) (hAO : A.length ≤ 900 ∧ O.length ≤ 900)
    (hQ : ∀ (v21 v108 v109 v110 v111 v112 v113 v114 v115 v116 v117 v118 v119 v120 v121 v122 v123 v124 v125 v126 v127 v128 v129 v130 v131 v132 v133 v134 v135 v136 v137 v138 v139 v140 v141 v142 v143 v144 v145 : Value) (w' : World) (av' ov' : Value), HRows base w0 wS w' d bx gs bk kv keep u hv iv av' ov' hs ids (A ++ Pm.pageW 3 (ids.length, pg) 4) (O ++ Pm.pageW 35 (p, pg) 4) → Q .normal ⟨List.toArray (u0 :: u1 :: u2 :: Value.pointer (some ⟨bk, 0, none⟩) :: u4 :: Value.pointer (some ⟨d, 0, none⟩) :: u6 :: Value.pointer (some ⟨bx, 0, none⟩) :: u8 :: Value.string ⟨(Pm.zeros 128).toArray⟩ :: Value.func (.func 6) #[] #[.pointer (some ⟨bx, 0, none⟩), .pointer (some ⟨bk, 0, none⟩)] :: u11 :: u12 :: u13 :: hv :: iv :: av' :: ov' :: u18 :: Value.int .u32 p :: Value.string ⟨pg.toArray⟩ :: v21 :: u22 :: u23 :: u24 :: u25 :: u26 :: u27 :: u28 :: u29 :: u30 :: u31 :: u32 :: u33 :: u34 :: u35 :: u36 :: u37 :: u38 :: u39 :: u40 :: u41 :: u42 :: u43 :: u44 :: u45 :: u46 :: u47 :: u48 :: u49 :: u50 :: u51 :: u52 :: u53 :: u54 :: u55 :: u56 :: u57 :: u58 :: u59 :: u60 :: u61 :: u62 :: u63 :: u64 :: u65 :: u66 :: u67 :: u68 :: u69 :: u70 :: u71 :: u72 :: u73 :: u74 :: u75 :: u76 :: u77 :: u78 :: u79 :: u80 :: u81 :: u82 :: u83 :: u84 :: u85 :: u86 :: u87 :: u88 :: u89 :: u90 :: u91 :: u92 :: u93 :: u94 :: u95 :: u96 :: u97 :: u98 :: u99 :: u100 :: u101 :: u102 :: u103 :: u104 :: u105 :: u106 :: u107 :: v108 :: v109 :: v110 :: v111 :: v112 :: v113 :: v114 :: v115 :: v116 :: v117 :: v118 :: v119 :: v120 :: v121 :: v122 :: v123 :: v124 :: v125 :: v126 :: v127 :: v128 :: v129 :: v130 :: v131 :: v132 :: v133 :: v134 :: v135 :: v136 :: v137 :: v138 :: v139 :: v140 :: v141 :: v142 :: v143 :: v144 :: v145 :: u146 :: u147 :: u148 :: u149 :: u150 :: u151 :: u152 :: u153 :: u154 :: u155 :: u156 :: u157 :: u158 :: u159 :: u160 :: u161 :: u162 :: u163 :: u164 :: u165 :: u166 :: u167 :: u168 :: u169 :: u170 :: u171 :: u172 :: u173 :: u174 :: u175 :: u176 :: u177 :: u178 :: u179 :: u180 :: u181 :: u182 :: u183 :: u184 :: u185 :: u186 :: u187 :: u188 :: u189 :: u190 :: u191 :: u192 :: u193 :: u194 :: u195 :: u196 :: u197 :: u198 :: u199 :: u200 :: u201 :: u202 :: u203 :: u204 :: u205 :: u206 :: u207 :: u208 :: u209 :: u210 :: u211 :: u212 :: u213 :: u214 :: u215 :: u216 :: u217 :: u218 :: u219 :: u220 :: u221 :: u222 :: u223 :: u224 :: u225 :: u226 :: u227 :: u228 :: u229 :: u230 :: u231 :: u232 :: u233 :: u234 :: u235 :: u236 :: u237 :: u238 :: u239 :: u240 :: u241 :: u242 :: u243 :: u244 :: u245 :: u246 :: u247 :: u248 :: u249 :: u250 :: u251 :: u252 :: u253 :: u254 :: u255 :: u256 :: u257 :: u258 :: u259 :: u260 :: u261 :: u262 :: u263 :: u264 :: u265 :: u266 :: u267 :: u268 :: u269 :: u270 :: u271 :: u272 :: u273 :: u274 :: u275 :: u276 :: u277 :: u278 :: u279 :: u280 :: u281 :: u282 :: u283 :: u284 :: u285 :: u286 :: u287 :: u288 :: u289 :: u290 :: u291 :: u292 :: u293 :: u294 :: u295 :: u296 :: u297 :: u298 :: u299 :: u300 :: u301 :: u302 :: u303 :: u304 :: u305 :: u306 :: u307 :: u308 :: u309 :: u310 :: u311 :: u312 :: u313 :: u314 :: u315 :: u316 :: u317 :: u318 :: u319 :: u320 :: u321 :: u322 :: u323 :: u324 :: u325 :: u326 :: u327 :: u328 :: u329 :: u330 :: u331 :: u332 :: u333 :: u334 :: u335 :: u336 :: u337 :: u338 :: u339 :: u340 :: u341 :: u342 :: u343 :: u344 :: u345 :: u346 :: u347 :: u348 :: u349 :: u350 :: u351 :: []), []⟩ w') :
    Code.wp Try.prog (cFst (cDrop 4 pageRound)) Q ⟨List.toArray (u0 :: u1 :: u2 :: Value.pointer (some ⟨bk, 0, none⟩) :: u4 :: Value.pointer (some ⟨d, 0, none⟩) :: u6 :: Value.pointer (some ⟨bx, 0, none⟩) :: u8 :: Value.string ⟨(Pm.zeros 128).toArray⟩ :: Value.func (.func 6) #[] #[.pointer (some ⟨bx, 0, none⟩), .pointer (some ⟨bk, 0, none⟩)] :: u11 :: u12 :: u13 :: hv :: iv :: av :: ov :: u18 :: Value.int .u32 p :: Value.string ⟨pg.toArray⟩ :: u21 :: u22 :: u23 :: u24 :: u25 :: u26 :: u27 :: u28 :: u29 :: u30 :: u31 :: u32 :: u33 :: u34 :: u35 :: u36 :: u37 :: u38 :: u39 :: u40 :: u41 :: u42 :: u43 :: u44 :: u45 :: u46 :: u47 :: u48 :: u49 :: u50 :: u51 :: u52 :: u53 :: u54 :: u55 :: u56 :: u57 :: u58 :: u59 :: u60 :: u61 :: u62 :: u63 :: u64 :: u65 :: u66 :: u67 :: u68 :: u69 :: u70 :: u71 :: u72 :: u73 :: u74 :: u75 :: u76 :: u77 :: u78 :: u79 :: u80 :: u81 :: u82 :: u83 :: u84 :: u85 :: u86 :: u87 :: u88 :: u89 :: u90 :: u91 :: u92 :: u93 :: u94 :: u95 :: u96 :: u97 :: u98 :: u99 :: u100 :: u101 :: u102 :: u103 :: u104 :: u105 :: u106 :: u107 :: u108 :: u109 :: u110 :: u111 :: u112 :: u113 :: u114 :: u115 :: u116 :: u117 :: u118 :: u119 :: u120 :: u121 :: u122 :: u123 :: u124 :: u125 :: u126 :: u127 :: u128 :: u129 :: u130 :: u131 :: u132 :: u133 :: u134 :: u135 :: u136 :: u137 :: u138 :: u139 :: u140 :: u141 :: u142 :: u143 :: u144 :: u145 :: u146 :: u147 :: u148 :: u149 :: u150 :: u151 :: u152 :: u153 :: u154 :: u155 :: u156 :: u157 :: u158 :: u159 :: u160 :: u161 :: u162 :: u163 :: u164 :: u165 :: u166 :: u167 :: u168 :: u169 :: u170 :: u171 :: u172 :: u173 :: u174 :: u175 :: u176 :: u177 :: u178 :: u179 :: u180 :: u181 :: u182 :: u183 :: u184 :: u185 :: u186 :: u187 :: u188 :: u189 :: u190 :: u191 :: u192 :: u193 :: u194 :: u195 :: u196 :: u197 :: u198 :: u199 :: u200 :: u201 :: u202 :: u203 :: u204 :: u205 :: u206 :: u207 :: u208 :: u209 :: u210 :: u211 :: u212 :: u213 :: u214 :: u215 :: u216 :: u217 :: u218 :: u219 :: u220 :: u221 :: u222 :: u223 :: u224 :: u225 :: u226 :: u227 :: u228 :: u229 :: u230 :: u231 :: u232 :: u233 :: u234 :: u235 :: u236 :: u237 :: u238 :: u239 :: u240 :: u241 :: u242 :: u243 :: u244 :: u245 :: u246 :: u247 :: u248 :: u249 :: u250 :: u251 :: u252 :: u253 :: u254 :: u255 :: u256 :: u257 :: u258 :: u259 :: u260 :: u261 :: u262 :: u263 :: u264 :: u265 :: u266 :: u267 :: u268 :: u269 :: u270 :: u271 :: u272 :: u273 :: u274 :: u275 :: u276 :: u277 :: u278 :: u279 :: u280 :: u281 :: u282 :: u283 :: u284 :: u285 :: u286 :: u287 :: u288 :: u289 :: u290 :: u291 :: u292 :: u293 :: u294 :: u295 :: u296 :: u297 :: u298 :: u299 :: u300 :: u301 :: u302 :: u303 :: u304 :: u305 :: u306 :: u307 :: u308 :: u309 :: u310 :: u311 :: u312 :: u313 :: u314 :: u315 :: u316 :: u317 :: u318 :: u319 :: u320 :: u321 :: u322 :: u323 :: u324 :: u325 :: u326 :: u327 :: u328 :: u329 :: u330 :: u331 :: u332 :: u333 :: u334 :: u335 :: u336 :: u337 :: u338 :: u339 :: u340 :: u341 :: u342 :: u343 :: u344 :: u345 :: u346 :: u347 :: u348 :: u349 :: u350 :: u351 :: []), []⟩ w := by
  conv => arg 2; whnf
  obtain ⟨ip, ic, rfl⟩ := hR.ids.shape
  obtain ⟨n, hn⟩ : ∃ n, n = ids.length := ⟨_, rfl⟩
  have hR0 : HRows base w0 wS w d bx gs bk kv keep u hv (.slice ip ids.length ic) av ov hs ids (A ++ Pm.pageW 3 (ids.length, pg) 0) (O ++ Pm.pageW 35 (p, pg) 0) := by simpa [Pm.pageW] using hR
  rw [← hn] at hn8 hR0 hQ ⊢
  replace hQ := Lib.hid hQ
  have hsl := fun W r => run_slice_sector' pg r W hpg
  replace hsl := Lib.hid hsl
  have hAl := Lib.hid hAO
  have hwp : IntKind.i64.wrap (p : Int) = p := IntWalk.i64_in _ ⟨by omega, by omega⟩
  clear hn hR hpg hAO
  go_wp2_with fail
  go_loopw [16, 17, 108] (fun v16 v17 i wr => ∃ r : Nat, r ≤ 4 ∧ i = .int .i64 r ∧ HRows base w0 wS wr d bx gs bk kv keep u hv (.slice ip n ic) v16 v17 hs ids (A ++ Pm.pageW 3 (n, pg) r) (O ++ Pm.pageW 35 (p, pg) r)) (fun _ _ i _ => 4 - (intOf i).toNat)
  case atStart => exact ⟨0, by omega, rfl, hR0⟩
  case round =>
    clear hR0
    obtain ⟨wo, rfl⟩ : ∃ wo : World, wo = wr := ⟨_, rfl⟩
    obtain ⟨r, hr, rfl, hR⟩ := hrel
    by_cases hr4 : r < 4
    · have hslr := hsl.out
      have hpw1 := Pm.pageW_succ 3 (n, pg) r
      have hpw2 := Pm.pageW_succ 35 (p, pg) r
      dsimp only at hpw1 hpw2
      obtain ⟨s, hs⟩ : ∃ s, s = Pm.part pg r := ⟨_, rfl⟩
      rw [← hs] at hpw1 hpw2
      have hslr' := fun W => hsl.out W r hr4
      rw [← hs] at hslr'
      have eK1 : (3 : Int) + 4 * (n : Int) + (r : Int) = ((3 + n * 4 + r : Nat) : Int) := by omega
      have eK2 : (35 : Int) + 4 * (p : Int) + (r : Int) = ((35 + p * 4 + r : Nat) : Int) := by omega
      have HP1 := Lib.hid hpw1
      have HP2 := Lib.hid hpw2
      have hN1 := crow_new1 wo (3 + n * 4 + r) s (g := wo.heap.size) rfl
      have hN2 := fun W : World => crow_new1 W (35 + p * 4 + r) s (g := W.heap.size) rfl
      rw [← eK1] at hN1
      rw [← eK2] at hN2
      replace hN2 := Lib.hid hN2
      have hb1 := ba (Below.refl wo.heap.size wo) (.cells #[.int .i64 (3 + 4 * (n : Int) + (r : Int)), .string ⟨s.toArray⟩] 32)
      have hR1 := hR.below hb1
      have hlen1 : (A ++ Pm.pageW 3 (n, pg) r).length + ([Pm.Cl.wr (3 + n * 4 + r) s]).length ≤ 100000 := by
        have := hAl.out
        rw [List.length_append, List.length_singleton, Pm.pageW, List.length_map, List.length_range]
        omega
      have hlen2 : (O ++ Pm.pageW 35 (p, pg) r).length + ([Pm.Cl.wr (35 + p * 4 + r) s]).length ≤ 100000 := by
        have := hAl.out
        rw [List.length_append, List.length_singleton, Pm.pageW, List.length_map, List.length_range]
        omega
      replace hlen1 := Lib.hid hlen1
      replace hlen2 := Lib.hid hlen2
      have hA1 := hR1.area
      have hz1 := hR1.size
      clear hs hpw1 hpw2 eK1 eK2 hslr hb1 hR
      go_wp2_with (at_builtin; refine wpList_append_call _ rfl _ _ rfl wS.heap.size 0 _ _ _ _ rfl rfl hA1 hN1 (by simp) hz1 hlen1.out ?_)
      intro v1 w1 hR2 hgr hwh
      have hR3 := hR1.areaG hgr hR2 (by simpa using hwh)
      clear hR1 hN1 hA1 hz1 hR2 hgr hwh hlen1
      have hN2w := hN2.out w1
      have hb2 := ba (Below.refl w1.heap.size w1) (.cells #[.int .i64 (35 + 4 * (p : Int) + (r : Int)), .string ⟨s.toArray⟩] 32)
      have hR4 := hR3.below hb2
      have hO4 := hR4.own
      have hz4 := hR4.size
      clear hR3 hb2 hN2
      go_wp2_with (at_builtin; refine wpList_append_call _ rfl _ _ rfl wS.heap.size 0 _ _ _ _ rfl rfl hO4 hN2w (by simp) hz4 hlen2.out ?_)
      intro v2 w2 hR5 hgr hwh
      have hR6 := hR4.ownG hgr hR5 (by simpa using hwh)
      clear hR4 hN2w hO4 hz4 hR5 hgr hwh hlen2
      replace hR6 := Lib.hid hR6
      go_wp2_with fail
      go_roundw
      case rel => exact ⟨r + 1, by omega, by go_num, by rw [HP1.out, HP2.out]; exact hR6.out⟩
      case measure => simp [intOf]; omega
    · obtain rfl : r = 4 := by omega
      go_wp2_with fail
      exact hQ.out _ _ _ _ _ _ _ _ _ _ _ _ _ _ _ _ _ _ _ _ _ _ _ _ _ _ _ _ _ _ _ _ _ _ _ _ _ _ _ wo u16 u17 hR
end Go.Proofs.Ytkbjmgenceghlaa
