/- A round over the fuses: the calls that put the pages back. -/
import Derived.Test.YtkbjmgenceghlaaV0
namespace Go.Proofs.Ytkbjmgenceghlaa
open Go.RowKit
attribute [local go_sem ↓] Go.wp_at_zero Go.wp_at_succ
theorem Quiet.grown {gs : Nat} {w a b : World} {row : Option Nat} (h : Quiet gs w a) (k : a.grownBy b row) (hr : ∀ r, row = some r → w.heap.size ≤ r) : Quiet gs w b := fun g t cs hB ht hg => (h g t cs hB ht hg).grown k (fun e => by have := hr g e.symm; have := hB.lt; omega)
theorem CRow.zero {b : Nat} {w : World} {v : Value} {cs : List Pm.Cl} (h : CRow b w v cs) : CRow 0 w v cs := by
  refine ⟨h.1, ?_⟩
  rcases h.2 with hn | ⟨g, cap, cur, e, hb, rest⟩
  · exact .inl hn
  · exact .inr ⟨g, cap, cur, e, Nat.zero_le _, rest⟩
theorem crow_new3 (w : World) (s : List UInt8) {g : Nat} (hg : w.heap.size = g) : CRow 0 (w.alloc (.cells #[.int .i64 (-1), .string ⟨#[]⟩, .int .i64 2, .string ⟨s.toArray⟩, .int .i64 (-1), .string ⟨#[]⟩] 32)) (.slice (some ⟨g, 0, none⟩) 3 3) [.sync, .wr 2 s, .sync] :=
  ⟨rfl, .inr ⟨g, 3, _, rfl, Nat.zero_le _, Blk.newAt w 32 _ hg, Nat.le_refl _, by unfold maxLen; omega, rfl, rfl⟩⟩
set_option maxRecDepth 1000000 in
set_option maxHeartbeats 8000000 in
theorem law_back {u0 u1 u2 u4 u6 u8 u11 u12 u13 u14 u16 u17 u18 u19 u20 u21 u23 u24 u25 u26 u27 u28 u31 u32 u33 u34 u35 u36 u37 u38 u39 u40 u41 u42 u43 u44 u45 u46 u47 u48 u49 u50 u51 u52 u53 u54 u55 u56 u57 u58 u59 u60 u61 u62 u63 u64 u65 u66 u67 u68 u69 u70 u71 u72 u73 u74 u75 u76 u77 u78 u79 u80 u81 u82 u83 u84 u85 u86 u87 u88 u89 u90 u91 u92 u93 u94 u95 u96 u97 u98 u99 u100 u101 u102 u103 u104 u105 u106 u107 u108 u109 u110 u111 u112 u113 u114 u115 u116 u117 u118 u119 u120 u121 u122 u123 u124 u125 u126 u127 u128 u129 u130 u131 u132 u133 u134 u135 u136 u137 u138 u139 u140 u141 u142 u143 u144 u145 u146 u147 u148 u149 u150 u151 u152 u153 u154 u155 u156 u157 u158 u159 u160 u161 u162 u163 u164 u165 u166 u167 u168 u169 u170 u171 u172 u173 u174 u175 u176 u177 u178 u179 u180 u181 u182 u183 u184 u185 u186 u187 u188 u189 u190 u191 u192 u193 u194 u195 u196 u197 u198 u199 u200 u201 u202 u203 u204 u205 u206 u207 u208 u209 u210 u211 u212 u213 u214 u215 u216 u217 u218 u219 u220 u221 u222 u223 u224 u225 u226 u227 u228 u229 u230 u231 u232 u233 u234 u235 u236 u237 u238 u239 u240 u241 u242 u243 u244 u245 u246 u247 u248 u249 u250 u251 u252 u253 u254 u255 u256 u257 u258 u259 u260 u261 u262 u263 u264 u265 u266 u267 u268 u269 u270 u271 u272 u273 u274 u275 u276 u277 u278 u279 u280 u281 u282 u283 u284 u285 u286 u287 u288 u289 u290 u291 u292 u293 u294 u295 u296 u297 u298 u299 u300 u301 u302 u303 u304 u305 u306 u307 u308 u309 u310 u311 u312 u313 u314 u315 u316 u317 u318 u319 u320 u321 u322 u323 u324 u325 u326 u327 u328 u329 u330 u331 u332 u333 u334 u335 u336 u337 u338 u339 u340 u341 u342 u343 u344 u345 u346 u347 u348 u349 u350 u351 : Value} (base d bx gs bk bsy : Nat) (iv kv : Value) (ids : List Nat) (keep : List Bool) (D : Pm.Dk) (u : List (List UInt8)) (w0 w : World) (Q : Exit → Act → World → Prop)
    (hL : LawAt base w0 w d bx gs bk kv keep D u) (hG : Pm.Good u ids) (hI : IdsAt base w iv ids) (hy : Blk w bsy 32 #[.int .i64 (-1), .string ⟨#[]⟩]) (hn8 : ids.length ≤ 8) (hid : ∀ p ∈ ids, p ≤ 12)
    (hQ : ∀ (v31 v32 v33 v225 v226 v227 v228 v229 v230 v231 v232 v233 v234 v235 v236 v237 v238 v239 v240 v241 v242 v243 v244 v245 v246 v247 v248 v249 v250 v251 v252 v253 v254 v255 v256 v257 v258 v259 v260 v261 v262 v263 v264 v265 v266 v267 v268 : Value) (w' : World) (bv : Value) (bcs : List Pm.Cl) (due : Int), (Pm.sec u 2 = Pm.zeros 128 → bcs = [] ∧ due = 0) → (Pm.sec u 2 ≠ Pm.zeros 128 → bcs = Pm.backCalls 2 35 (Pm.backOf u 2 ids) ∧ due = ids.length) → CRow 0 w' bv bcs → LawAt base w0 w' d bx gs bk kv keep D u → Quiet gs w w' → Q .normal ⟨List.toArray (u0 :: u1 :: u2 :: Value.pointer (some ⟨bk, 0, none⟩) :: u4 :: Value.pointer (some ⟨d, 0, none⟩) :: u6 :: Value.pointer (some ⟨bx, 0, none⟩) :: u8 :: Value.string ⟨(Pm.zeros 128).toArray⟩ :: Value.func (.func 6) #[] #[.pointer (some ⟨bx, 0, none⟩), .pointer (some ⟨bk, 0, none⟩)] :: u11 :: u12 :: u13 :: u14 :: iv :: u16 :: u17 :: u18 :: u19 :: u20 :: u21 :: Value.pointer (some ⟨bsy, 0, none⟩) :: u23 :: u24 :: u25 :: u26 :: u27 :: u28 :: bv :: Value.int .i64 due :: v31 :: v32 :: v33 :: u34 :: u35 :: u36 :: u37 :: u38 :: u39 :: u40 :: u41 :: u42 :: u43 :: u44 :: u45 :: u46 :: u47 :: u48 :: u49 :: u50 :: u51 :: u52 :: u53 :: u54 :: u55 :: u56 :: u57 :: u58 :: u59 :: u60 :: u61 :: u62 :: u63 :: u64 :: u65 :: u66 :: u67 :: u68 :: u69 :: u70 :: u71 :: u72 :: u73 :: u74 :: u75 :: u76 :: u77 :: u78 :: u79 :: u80 :: u81 :: u82 :: u83 :: u84 :: u85 :: u86 :: u87 :: u88 :: u89 :: u90 :: u91 :: u92 :: u93 :: u94 :: u95 :: u96 :: u97 :: u98 :: u99 :: u100 :: u101 :: u102 :: u103 :: u104 :: u105 :: u106 :: u107 :: u108 :: u109 :: u110 :: u111 :: u112 :: u113 :: u114 :: u115 :: u116 :: u117 :: u118 :: u119 :: u120 :: u121 :: u122 :: u123 :: u124 :: u125 :: u126 :: u127 :: u128 :: u129 :: u130 :: u131 :: u132 :: u133 :: u134 :: u135 :: u136 :: u137 :: u138 :: u139 :: u140 :: u141 :: u142 :: u143 :: u144 :: u145 :: u146 :: u147 :: u148 :: u149 :: u150 :: u151 :: u152 :: u153 :: u154 :: u155 :: u156 :: u157 :: u158 :: u159 :: u160 :: u161 :: u162 :: u163 :: u164 :: u165 :: u166 :: u167 :: u168 :: u169 :: u170 :: u171 :: u172 :: u173 :: u174 :: u175 :: u176 :: u177 :: u178 :: u179 :: u180 :: u181 :: u182 :: u183 :: u184 :: u185 :: u186 :: u187 :: u188 :: u189 :: u190 :: u191 :: u192 :: u193 :: u194 :: u195 :: u196 :: u197 :: u198 :: u199 :: u200 :: u201 :: u202 :: u203 :: u204 :: u205 :: u206 :: u207 :: u208 :: u209 :: u210 :: u211 :: u212 :: u213 :: u214 :: u215 :: u216 :: u217 :: u218 :: u219 :: u220 :: u221 :: u222 :: u223 :: u224 :: v225 :: v226 :: v227 :: v228 :: v229 :: v230 :: v231 :: v232 :: v233 :: v234 :: v235 :: v236 :: v237 :: v238 :: v239 :: v240 :: v241 :: v242 :: v243 :: v244 :: v245 :: v246 :: v247 :: v248 :: v249 :: v250 :: v251 :: v252 :: v253 :: v254 :: v255 :: v256 :: v257 :: v258 :: v259 :: v260 :: v261 :: v262 :: v263 :: v264 :: v265 :: v266 :: v267 :: v268 :: u269 :: u270 :: u271 :: u272 :: u273 :: u274 :: u275 :: u276 :: u277 :: u278 :: u279 :: u280 :: u281 :: u282 :: u283 :: u284 :: u285 :: u286 :: u287 :: u288 :: u289 :: u290 :: u291 :: u292 :: u293 :: u294 :: u295 :: u296 :: u297 :: u298 :: u299 :: u300 :: u301 :: u302 :: u303 :: u304 :: u305 :: u306 :: u307 :: u308 :: u309 :: u310 :: u311 :: u312 :: u313 :: u314 :: u315 :: u316 :: u317 :: u318 :: u319 :: u320 :: u321 :: u322 :: u323 :: u324 :: u325 :: u326 :: u327 :: u328 :: u329 :: u330 :: u331 :: u332 :: u333 :: u334 :: u335 :: u336 :: u337 :: u338 :: u339 :: u340 :: u341 :: u342 :: u343 :: u344 :: u345 :: u346 :: u347 :: u348 :: u349 :: u350 :: u351 :: []), []⟩ w') :
    Code.wp Try.prog (cFst (cDrop 3 fixRound)) Q ⟨List.toArray (u0 :: u1 :: u2 :: Value.pointer (some ⟨bk, 0, none⟩) :: u4 :: Value.pointer (some ⟨d, 0, none⟩) :: u6 :: Value.pointer (some ⟨bx, 0, none⟩) :: u8 :: Value.string ⟨(Pm.zeros 128).toArray⟩ :: Value.func (.func 6) #[] #[.pointer (some ⟨bx, 0, none⟩), .pointer (some ⟨bk, 0, none⟩)] :: u11 :: u12 :: u13 :: u14 :: iv :: u16 :: u17 :: u18 :: u19 :: u20 :: u21 :: Value.pointer (some ⟨bsy, 0, none⟩) :: u23 :: u24 :: u25 :: u26 :: u27 :: u28 :: Value.slice none 0 0 :: Value.int .i64 0 :: u31 :: u32 :: u33 :: u34 :: u35 :: u36 :: u37 :: u38 :: u39 :: u40 :: u41 :: u42 :: u43 :: u44 :: u45 :: u46 :: u47 :: u48 :: u49 :: u50 :: u51 :: u52 :: u53 :: u54 :: u55 :: u56 :: u57 :: u58 :: u59 :: u60 :: u61 :: u62 :: u63 :: u64 :: u65 :: u66 :: u67 :: u68 :: u69 :: u70 :: u71 :: u72 :: u73 :: u74 :: u75 :: u76 :: u77 :: u78 :: u79 :: u80 :: u81 :: u82 :: u83 :: u84 :: u85 :: u86 :: u87 :: u88 :: u89 :: u90 :: u91 :: u92 :: u93 :: u94 :: u95 :: u96 :: u97 :: u98 :: u99 :: u100 :: u101 :: u102 :: u103 :: u104 :: u105 :: u106 :: u107 :: u108 :: u109 :: u110 :: u111 :: u112 :: u113 :: u114 :: u115 :: u116 :: u117 :: u118 :: u119 :: u120 :: u121 :: u122 :: u123 :: u124 :: u125 :: u126 :: u127 :: u128 :: u129 :: u130 :: u131 :: u132 :: u133 :: u134 :: u135 :: u136 :: u137 :: u138 :: u139 :: u140 :: u141 :: u142 :: u143 :: u144 :: u145 :: u146 :: u147 :: u148 :: u149 :: u150 :: u151 :: u152 :: u153 :: u154 :: u155 :: u156 :: u157 :: u158 :: u159 :: u160 :: u161 :: u162 :: u163 :: u164 :: u165 :: u166 :: u167 :: u168 :: u169 :: u170 :: u171 :: u172 :: u173 :: u174 :: u175 :: u176 :: u177 :: u178 :: u179 :: u180 :: u181 :: u182 :: u183 :: u184 :: u185 :: u186 :: u187 :: u188 :: u189 :: u190 :: u191 :: u192 :: u193 :: u194 :: u195 :: u196 :: u197 :: u198 :: u199 :: u200 :: u201 :: u202 :: u203 :: u204 :: u205 :: u206 :: u207 :: u208 :: u209 :: u210 :: u211 :: u212 :: u213 :: u214 :: u215 :: u216 :: u217 :: u218 :: u219 :: u220 :: u221 :: u222 :: u223 :: u224 :: u225 :: u226 :: u227 :: u228 :: u229 :: u230 :: u231 :: u232 :: u233 :: u234 :: u235 :: u236 :: u237 :: u238 :: u239 :: u240 :: u241 :: u242 :: u243 :: u244 :: u245 :: u246 :: u247 :: u248 :: u249 :: u250 :: u251 :: u252 :: u253 :: u254 :: u255 :: u256 :: u257 :: u258 :: u259 :: u260 :: u261 :: u262 :: u263 :: u264 :: u265 :: u266 :: u267 :: u268 :: u269 :: u270 :: u271 :: u272 :: u273 :: u274 :: u275 :: u276 :: u277 :: u278 :: u279 :: u280 :: u281 :: u282 :: u283 :: u284 :: u285 :: u286 :: u287 :: u288 :: u289 :: u290 :: u291 :: u292 :: u293 :: u294 :: u295 :: u296 :: u297 :: u298 :: u299 :: u300 :: u301 :: u302 :: u303 :: u304 :: u305 :: u306 :: u307 :: u308 :: u309 :: u310 :: u311 :: u312 :: u313 :: u314 :: u315 :: u316 :: u317 :: u318 :: u319 :: u320 :: u321 :: u322 :: u323 :: u324 :: u325 :: u326 :: u327 :: u328 :: u329 :: u330 :: u331 :: u332 :: u333 :: u334 :: u335 :: u336 :: u337 :: u338 :: u339 :: u340 :: u341 :: u342 :: u343 :: u344 :: u345 :: u346 :: u347 :: u348 :: u349 :: u350 :: u351 :: []), []⟩ w := by
  conv => arg 2; whnf
  replace hQ := Lib.hid hQ
  have hu := hG.len
  have hsecs := hG.secs
  have hbox := hL.sure.box.cell 0
  rw [hu] at hbox
  change _ = some (Value.slice (some ⟨gs, 0, none⟩) 87 87) at hbox
  have hc2 : w.cell? ⟨gs, 2, none⟩ = some (.string ⟨(Pm.sec u 2).toArray⟩) := (hL.sure.row.cell 2).trans ((sureArr_get u 2 (by omega)).trans (by unfold Pm.sec strCell; rw [List.getElem?_eq_getElem (show 2 < u.length by omega)]; rfl))
  by_cases hz : Pm.sec u 2 = Pm.zeros 128
  · rw [hz] at hc2
    replace hL := Lib.hid hL
    have HZ := Lib.hid hz
    clear hG hI hy hu hsecs hz
    go_wp2_with fail
    exact hQ.out _ _ _ _ _ _ _ _ _ _ _ _ _ _ _ _ _ _ _ _ _ _ _ _ _ _ _ _ _ _ _ _ _ _ _ _ _ _ _ _ _ _ _ _ _ _ _ w (.slice none 0 0) [] 0 (fun _ => ⟨rfl, rfl⟩) (fun h => absurd HZ.out h) (World.ownsRow_nil _ _ _ _) hL.out (Quiet.refl _ _)
  · have dz : (Pm.sec u 2 == Pm.zeros 128) = false := beq_eq_false_iff_ne.2 hz
    obtain ⟨p, c, rfl⟩ := hI.shape
    obtain ⟨n, hn⟩ : ∃ n, n = ids.length := ⟨_, rfl⟩
    rw [← hn] at hn8
    have hQ' := hQ.out
    rw [← hn] at hQ'
    replace hQ := Lib.hid hQ'
    clear hQ'
    have HN := Lib.hid hn
    have HZ := Lib.hid hz
    have HU := Lib.hid hu
    have HSE := Lib.hid hsecs
    replace hid := Lib.hid hid
    obtain ⟨sm, hsm⟩ : ∃ sm, sm = Pm.sec u 2 := ⟨_, rfl⟩
    rw [← hsm] at hc2 dz
    have HI : IdsAt base w (.slice p n c) ids := by rw [hn]; exact hI
    rw [← hn]
    clear hsm hz hI hn hu hsecs hG
    have q0 : Quiet gs w w := Quiet.refl _ _
    go_wp2_with fail
    go_loopw [29, 234] (fun bv i wr => ∃ k : Nat, k ≤ n ∧ i = .int .i64 k ∧ CRow w.heap.size wr bv (Pm.homeW 35 (Pm.backOf u 2 (ids.take k))) ∧ LawAt base w0 wr d bx gs bk kv keep D u ∧ Quiet gs w wr ∧ w.heap.size ≤ wr.heap.size) (fun _ i _ => n - (intOf i).toNat)
    case atStart => exact ⟨0, by omega, rfl, World.ownsRow_nil _ _ _ _, hL, q0, by omega⟩
    case round =>
      clear hbox hc2
      obtain ⟨wo, rfl⟩ : ∃ wo : World, wo = wr := ⟨_, rfl⟩
      obtain ⟨i, hi, rfl, hR, hL1, q1, q1z⟩ := hrel
      by_cases hlt : i < n
      · have hil : i < ids.length := by have := HN.out; omega
        have hIo : IdsAt base wo (.slice p n c) ids := owns_quiet HI q1 hL.sure.row rfl (by decide)
        obtain ⟨g, c', e, hcell⟩ := hIo.get i hil
        injection e with e1 e2 e3
        subst e1 e3
        clear e2
        have hx12 := hid.out _ (List.getElem_mem hil)
        have hsn := Pm.backOf_snoc u 2 ids i hil
        obtain ⟨x, hx⟩ : ∃ x, x = ids[i]'hil := ⟨_, rfl⟩
        rw [← hx] at hcell hx12 hsn
        have HSN := Lib.hid hsn
        have hR0 : CRow w.heap.size wo u29 (Pm.homeW 35 (Pm.backOf u 2 (ids.take i)) ++ Pm.pageW 35 (x, Pm.pageAt u (2 + 1 + i * 4)) 0) := by simpa [Pm.pageW] using hR
        clear hx hsn hR hIo
        have hwx : IntKind.i64.wrap (x : Int) = x := IntWalk.i64_in _ ⟨by omega, by omega⟩
        have q1' := q1
        have hL1' := hL1
        go_wp2_with fail
        go_loopw [29, 239] (fun bv i' wr => ∃ k : Nat, k ≤ 4 ∧ i' = .int .i64 k ∧ CRow w.heap.size wr bv (Pm.homeW 35 (Pm.backOf u 2 (ids.take i)) ++ Pm.pageW 35 (x, Pm.pageAt u (2 + 1 + i * 4)) k) ∧ LawAt base w0 wr d bx gs bk kv keep D u ∧ Quiet gs w wr ∧ w.heap.size ≤ wr.heap.size) (fun _ i _ => 4 - (intOf i).toNat)
        case atStart => exact ⟨0, by omega, rfl, hR0, hL1, q1, q1z⟩
        case round =>
          clear hR0 hL1 q1 q1z
          obtain ⟨wp, rfl⟩ : ∃ wp : World, wp = wr := ⟨_, rfl⟩
          obtain ⟨k, hk, rfl, hR, hL2, q2, q2z⟩ := hrel
          by_cases hlk : k < 4
          · have hpw := Pm.pageW_succ 35 (x, Pm.pageAt u (2 + 1 + i * 4)) k
            dsimp only at hpw
            rw [Pm.part_page u HSE.out (2 + 1 + i * 4) k hlk (by have := HU.out; omega)] at hpw
            have hbox := hL2.sure.box.cell 0
            rw [HU.out] at hbox
            change _ = some (Value.slice (some ⟨gs, 0, none⟩) 87 87) at hbox
            have hklt : 3 + 4 * i + k < u.length := by have := HU.out; omega
            have hc : wp.cell? ⟨gs, 3 + 4 * i + k, none⟩ = some (.string ⟨(Pm.sec u (2 + 1 + i * 4 + k)).toArray⟩) := (hL2.sure.row.cell _).trans ((sureArr_get u _ hklt).trans (by unfold Pm.sec strCell; rw [show 2 + 1 + i * 4 + k = 3 + 4 * i + k by omega, List.getElem?_eq_getElem hklt]; rfl))
            obtain ⟨s, hs⟩ : ∃ s, s = Pm.sec u (2 + 1 + i * 4 + k) := ⟨_, rfl⟩
            rw [← hs] at hc hpw
            have HPW := Lib.hid hpw
            have eK : (35 : Int) + 4 * (x : Int) + (k : Int) = ((35 + x * 4 + k : Nat) : Int) := by omega
            have hN1 := crow_new1 wp (35 + x * 4 + k) s (g := wp.heap.size) rfl
            rw [← eK] at hN1
            have hb1 := ba (Below.refl wp.heap.size wp) (.cells #[.int .i64 (35 + 4 * (x : Int) + (k : Int)), .string ⟨s.toArray⟩] 32)
            have hL3 := hL2.after hb1
            have q3 := q2.trans (Quiet.below hb1)
            have hR3 : CRow w.heap.size _ u29 _ := CRow.below hR hb1
            have hsz : w.heap.size ≤ (wp.alloc (.cells #[.int .i64 (35 + 4 * (x : Int) + (k : Int)), .string ⟨s.toArray⟩] 32)).heap.size := Nat.le_trans q2z hb1.size
            have hlen : (Pm.homeW 35 (Pm.backOf u 2 (ids.take i)) ++ Pm.pageW 35 (x, Pm.pageAt u (2 + 1 + i * 4)) k).length + ([Pm.Cl.wr (35 + x * 4 + k) s]).length ≤ 100000 := by
              rw [List.length_append, Pm.homeW_len, Pm.backOf_len, List.length_take, List.length_singleton, Pm.pageW, List.length_map, List.length_range]
              omega
            have hlen := Lib.hid hlen
            have hbw := hL.hbw
            clear hs hpw eK hb1 hL2 q2 hR q2z
            go_wp2_with (at_builtin; refine wpList_append_call _ rfl _ _ rfl w.heap.size 0 _ _ _ _ rfl rfl hR3 hN1 (by simp) hsz hlen.out ?_)
            intro v' w2 hR4 hgr _
            have hrl : ∀ r, Value.ownBlock u29 = some r → w.heap.size ≤ r := fun r hr => (World.ownsRow.lt hR3 r hr).1
            have hL4 := hL3.grown hgr hR3 rfl hbw rfl (by decide) (by decide) (by decide)
            have q4 := q3.grown hgr hrl
            have hz4 := Nat.le_trans hsz hgr.size
            clear hgr hR3 hN1 hL3 q3 hsz hrl hlen
            go_wp2
            go_roundw
            case rel => exact ⟨k + 1, by omega, by go_num, by rw [HPW.out]; simpa [List.append_assoc] using hR4, hL4, q4, hz4⟩
            case measure => simp [intOf]; omega
          · obtain rfl : k = 4 := by omega
            go_wp2_with fail
            go_roundw
            case rel => exact ⟨i + 1, by omega, by go_num, by rw [HSN.out]; simpa [Pm.homeW] using hR, hL2, q2, q2z⟩
            case measure => simp [intOf]; omega
      · obtain rfl : i = n := by omega
        have hall : ids.take i = ids := List.take_of_length_le (by have := HN.out; omega)
        rw [hall] at hR
        have hyo := q1 _ _ _ hy rfl (fun e => hy.ne_ hL.sure.row (by decide) e)
        have hy0 := hyo.cell 0
        have hy1 := hyo.cell 1
        change _ = some (Value.int .i64 (-1)) at hy0
        change _ = some (Value.string ⟨#[]⟩) at hy1
        have hyl := hyo.lt
        obtain ⟨cells, hcells⟩ : ∃ cs : Array Value, cs = #[.int .i64 (-1), .string ⟨#[]⟩, .int .i64 2, .string ⟨(Pm.zeros 128).toArray⟩, .int .i64 (-1), .string ⟨#[]⟩] := ⟨_, rfl⟩
        have hN1 := crow_new3 wo (Pm.zeros 128) (g := wo.heap.size) rfl
        have hb1 := ba (Below.refl wo.heap.size wo) (.cells #[.int .i64 (-1), .string ⟨#[]⟩, .int .i64 2, .string ⟨(Pm.zeros 128).toArray⟩, .int .i64 (-1), .string ⟨#[]⟩] 32)
        have hL3 := hL1.after hb1
        have q3 := q1.trans (Quiet.below hb1)
        have hR3 := CRow.below hR hb1
        have hsz := Nat.le_trans q1z hb1.size
        have hbw := hL.hbw
        have hlen : (Pm.homeW 35 (Pm.backOf u 2 ids)).length + ([Pm.Cl.sync, .wr 2 (Pm.zeros 128), .sync]).length ≤ 100000 := by
          rw [Pm.homeW_len, Pm.backOf_len, ← HN.out]
          simp
          omega
        replace hlen := Lib.hid hlen
        clear hb1 hL1 q1 hR q1z hyo hall hcells
        go_wp2_with (at_builtin; refine wpList_append_call _ rfl _ _ rfl w.heap.size 0 _ _ _ _ rfl rfl hR3 hN1 (by simp) hsz hlen.out ?_)
        intro v' w2 hR4 hgr _
        have hrl : ∀ r, Value.ownBlock u29 = some r → w.heap.size ≤ r := fun r hr => (World.ownsRow.lt hR3 r hr).1
        have hL4 := hL3.grown hgr hR3 rfl hbw rfl (by decide) (by decide) (by decide)
        have q4 := q3.grown hgr hrl
        clear hgr hR3 hN1 hL3 q3 hsz hrl hlen
        go_wp2
        exact hQ.out _ _ _ _ _ _ _ _ _ _ _ _ _ _ _ _ _ _ _ _ _ _ _ _ _ _ _ _ _ _ _ _ _ _ _ _ _ _ _ _ _ _ _ _ _ _ _ w2 v' _ i (fun h => absurd h HZ.out) (fun _ => ⟨rfl, rfl⟩) (by unfold Pm.backCalls; rw [List.append_assoc]; exact CRow.zero hR4) hL4 q4
end Go.Proofs.Ytkbjmgenceghlaa
