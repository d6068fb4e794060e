/- What 'Write' answers: a disk that stands still says so; else the sector is loose. -/
import Derived.Test.YtkbjmgenceghlaaD3
import Derived.Test.YtkbjmgenceghlaaPh
import Derived.Great.BuildSlice
namespace Go.Proofs.Ytkbjmgenceghlaa
open Go.RowKit
namespace Pm
def Dk.write (D : Dk) (k : Nat) (s : List UInt8) : Dk := if D.fuse = 0 then D else { D with loose := D.loose ++ [(k, s)], fuse := burn D.fuse }
end Pm
theorem fields93 : ∃ fs : Array Field, Try.prog.underlying 93 = some (.struct fs) ∧ fs.toList.mapM (fun f => (Try.prog.info? f.type).map fun i => (f.offset, i.size)) = some [(0, 1), (1, 128)] := ⟨_, Try.underlying93, by kernel_rfl⟩
theorem fill_two (pl : Nat → Option (Nat × Nat)) (p0 : pl 0 = some (0, 1)) (p1 : pl 1 = some (1, 128)) (Z C : Array Value) (k u : Value) (hk : k.cells = #[k]) (hu : u.cells = C) (hZ : Z.size = 129) (hC : C.size = 128) : Instr.fill pl Z [(0, k), (1, u)] = some (#[k] ++ C) := by
  have e0 : (Z.setIfInBounds 0 k).size = 129 := by simp [hZ]
  obtain ⟨g1, g2⟩ := Great.foldl_set 1 C.toList 0 (Z.setIfInBounds 0 k)
  have e : (#[k].zipIdx.foldl (fun cs (x : Value × Nat) => cs.setIfInBounds (0 + x.2) x.1) Z) = Z.setIfInBounds 0 k := by simp
  have e1 : Instr.fill pl Z [(0, k), (1, u)] = Instr.fill pl (Z.setIfInBounds 0 k) [(1, u)] := by
    rw [Instr.fill]
    simp only [p0, hk]
    rw [if_neg (by simp [hZ])]
    rw [← e]
  have e2 : Instr.fill pl (Z.setIfInBounds 0 k) [(1, u)] = some (C.zipIdx.foldl (fun cs (x : Value × Nat) => cs.setIfInBounds (1 + x.2) x.1) (Z.setIfInBounds 0 k)) := by
    rw [Instr.fill]
    simp only [p1, hu]
    rw [if_neg (by simp [hZ, hC])]
    rfl
  rw [e1, e2]
  congr 1
  rw [← Array.foldl_toList, Array.toList_zipIdx]
  apply Array.ext_getElem?
  intro j
  rw [g2 j, e0]
  simp only [Nat.add_zero, Array.length_toList, hC]
  by_cases h0 : j = 0
  · subst h0
    rw [if_neg (by omega), Array.getElem?_append_left (by simp)]
    simp [hZ]
  · by_cases h1 : j < 129
    · rw [if_pos (by omega)]
      rw [Array.getElem?_append_right (by simp; omega)]
      simp
    · rw [if_neg (by omega), Array.getElem?_eq_none (by simp [hZ]; omega), Array.getElem?_eq_none (by simp [hC]; omega)]
theorem built93 (k : Value) (hk : k.cells = #[k]) (C : Array Value) (hC : C.size = 128) : Try.prog.built 93 [(0, k), (1, .agg C)] = some (#[k] ++ C) := by
  obtain ⟨fs, hu, hp⟩ := fields93
  obtain ⟨i, z, hi, hz, hs, hby, hzs⟩ := info93
  unfold Program.built
  rw [hi, hu]
  simp only [hz, hp]
  exact fill_two _ rfl rfl _ C k _ hk rfl hzs hC
theorem run_build93 (w : World) (k : Value) (hk : k.cells = #[k]) (C : Array Value) (hC : C.size = 128) : (Instr.build 93 #[(0, k), (1, .agg C)]).run Try.prog w = .ok (.agg (#[k] ++ C)) w :=
  run_build w 93 _ _ (built93 k hk C hC)
/-- a slice literal of whole parts -/
theorem run_lits {P : Program} (w : World) (t e : TypeId) (vs : List Value) (size : Nat) (hs : 0 < size) (ie : TypeInfo) (z : Value) (hu : P.underlying t = some (.slice e)) (hie : P.info? e = some ie) (hz : ie.zero = some z) (hsz : ie.size = size)
    (hv : ∀ v ∈ vs, v.cells.size = size) (h0 : 0 < vs.length) (hb : vs.length * size ≤ 2 ^ 24) (parts : Array (Nat × Value)) (hp : parts.toList = (vs.zipIdx 0).map fun x => (x.2, x.1)) :
    (Instr.buildSlice t vs.length parts).run P w = .ok (.slice (some ⟨w.heap.size, 0, none⟩) vs.length vs.length) (w.alloc (.cells (vs.flatMap fun v => v.cells.toList).toArray e)) := by
  subst hsz
  have hpos : 0 < vs.length * ie.size := Nat.mul_pos h0 hs
  refine run_buildSlice w t e vs.length parts _ ie z hu hie hz (by omega) (by omega) ?_
  rw [hp]
  exact Great.fill_whole hs vs _ hv (by simp)
theorem run_lit93 (w : World) (C : Array Value) (hC : C.size = 129) : (Instr.buildSlice 61 1 #[(0, .agg C)]).run Try.prog w = .ok (.slice (some ⟨w.heap.size, 0, none⟩) 1 1) (w.alloc (.cells C 93)) := by
  obtain ⟨i, z, hi, hz, hs, hby, hzs⟩ := info93
  have h := run_lits (P := Try.prog) w 61 93 [.agg C] 129 (by omega) i z Try.underlying61 hi hz hs (fun v hv => by simp at hv; subst hv; simpa [Value.cells] using hC) (by simp) (by simp) #[(0, .agg C)] rfl
  simpa [Value.cells] using h
theorem run_arrayAt91 (w : World) (a : Addr) (c : Nat) : (Instr.arrayAt 91 (.slice (some a) 128 c)).run Try.prog w = .ok (.pointer (some a)) w := by
  simp [Instr.arrayAt, run_underlying Try.underlying91]
theorem size91 : (Try.prog.info? 91).map (·.size) = some 128 := by kernel_rfl
theorem size93 : (Try.prog.info? 93).map (·.size) = some 129 := by kernel_rfl
theorem secCells_len (s : List UInt8) : (secCells s).length = s.length := by simp [secCells]
theorem secCells_one {s : List UInt8} {v : Value} (h : v ∈ secCells s) : v.oneCell' = true := by
  obtain ⟨b, _, rfl⟩ := List.mem_map.1 h
  rfl
theorem bworld_range (p : List UInt8) (w : World) : (bworld p w).rangeAt w.heap.size 0 (secCells p) := fun j v hv => by
  have hj : j < p.length := by have := (List.getElem?_eq_some_iff.1 hv).1; simpa [secCells_len] using this
  rw [Nat.zero_add, bworld_cell p w j hj, ← hv]
  simp [secCells, hj]
theorem looseCells_snoc (l : List (Nat × List UInt8)) (k : Nat) (s : List UInt8) : looseCells (l ++ [(k, s)]) = looseCells l ++ (.int .i64 (k : Int) :: secCells s) := by
  simp [looseCells, wrCells]
/-- the slice of loose sectors has grown by one -/
theorem IsDisk.pushed {w w1 w2 : World} {base d : Nat} {D : Pm.Dk} {S : Nat} {lv v' : Value} {k : Nat} {s : List UInt8} (ok : Pm.DkOk D) (hd : base ≤ d)
    (hB : Blk w d 63 #[.slice (some ⟨S, 0, none⟩) D.sure.length D.sure.length, lv, .int .i64 D.fuse])
    (hS : w.ownsRow base 91 128 (.slice (some ⟨S, 0, none⟩) D.sure.length D.sure.length) D.sure.length (sureCells D.sure))
    (hL : w.ownsRow base 93 129 lv D.loose.length (looseCells D.loose)) (hb : Below w.heap.size w w1)
    (hown : w2.ownsRow base 93 129 v' (D.loose.length + 1) (looseCells D.loose ++ (.int .i64 (k : Int) :: secCells s))) (hg : w1.grownBy w2 lv.ownBlock)
    (hk : k < D.sure.length) (hs : s.length = 128) (hfew : D.loose.length < 1000000) :
    IsDisk (w2.setCell ⟨d, 1, none⟩ v') base d { D with loose := D.loose ++ [(k, s)] } ∧ Kept base w (w2.setCell ⟨d, 1, none⟩ v') := by
  have hbs := hb.size
  have hsb : (Value.slice (some ⟨S, 0, none⟩) D.sure.length D.sure.length).ownBlock = some S := rfl
  have hB1 := hB.after hb
  have hne := owned_ne hB hL (by decide)
  have hB2 : Blk w2 d 63 #[.slice (some ⟨S, 0, none⟩) D.sure.length D.sure.length, lv, .int .i64 D.fuse] := hB1.grown hg (fun e => hne e.symm)
  have hS1 : w1.ownsRow base 91 128 (.slice (some ⟨S, 0, none⟩) D.sure.length D.sure.length) D.sure.length (sureCells D.sure) :=
    hS.kept (row := none) ⟨hb.os, hb.tape, hb.output, hb.size, fun k hk _ => hb.block k hk⟩ (.inr (by simp [Value.ownBlock]))
  have hSL : some S ≠ lv.ownBlock := fun e => by
    rcases hL.2 with ⟨rfl, _⟩ | ⟨g, cap, cur, rfl, _, hk, _⟩
    · simp [Value.ownBlock] at e
    · simp [Value.ownBlock] at e
      subst e
      rcases hS.2 with ⟨e, _⟩ | ⟨g', cap', cur', e, _, hk', _⟩
      · cases e
      · cases e
        rw [hk] at hk'
        injection hk' with e
        injection e with _ e _
        cases e
  have hS2 := hS1.kept hg (.inr (by rw [hsb]; exact hSL))
  have ho := (Only.refl w2 d).set_ 1 v'
  refine ⟨⟨⟨ok.many, ok.bound, ok.secs, fun x hx => ?_, by simp; omega, ok.fuseLo, ok.fuseHi⟩, S, v', hd, ?_, hS2.kept ho (.inr (owned_ne hB2 hS2 (by decide))), ?_⟩, ?_⟩
  · rcases List.mem_append.1 hx with hx | hx
    · exact ok.at_ x hx
    · simp at hx; subst hx; exact ⟨hk, hs⟩
  · have := hB2.set_ 1 v'
    simpa only [List.setIfInBounds_toArray, List.set_cons_succ, List.set_cons_zero] using this
  · have h2 := hown.kept ho (.inr (owned_ne hB2 hown (by decide)))
    simpa [looseCells_snoc] using h2
  · refine ((Kept.below hb).trans ?_).trans (kept_set hB2 rfl hd 1 _)
    refine ⟨hg.os, hg.tape, hg.output, hg.size, fun g hgl hc => hg.block g hgl ?_⟩
    intro e
    rcases hL.2 with ⟨rfl, _⟩ | ⟨g', cap, cur, rfl, hbg, hk, _⟩
    · simp [Value.ownBlock] at e
    · simp only [Value.ownBlock, Option.some.injEq] at e
      subst e
      rcases hc with hc | hc
      · omega
      · have := hc cur 93 (0, 0) ((hb.block g (Array.getElem?_eq_some_iff.1 hk).1).trans hk)
        cases this
end Go.Proofs.Ytkbjmgenceghlaa
