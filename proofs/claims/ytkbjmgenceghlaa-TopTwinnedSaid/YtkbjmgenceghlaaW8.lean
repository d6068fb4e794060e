/- A sum by the table: what 'More', 'Of' and 'Seal' answer for every text of at most a million bytes. -/
import Derived.Test.YtkbjmgenceghlaaW7
namespace Go.Proofs.Ytkbjmgenceghlaa
open Go.RowKit
attribute [local go_sem ↓] add_short
set_option maxRecDepth 100000 in
set_option maxHeartbeats 1000000 in
theorem more_any (p : List UInt8) (w : World) (hl : p.length ≤ 1000000) :
    Calls Try.prog 63 #[.int .u32 0, .string ⟨p.toArray⟩] w fun e w' => e = .returned (.int .u32 (Pm.crc p : Nat)) ∧ Below w.heap.size w w' := by
  have HT := Lib.hid table_any
  go_enter Try.func63, Try.ntmps63
  go_wp2_with fail
  refine (HT.out _).mono ?_
  rintro e w1 ⟨T, hTs, hT, rfl, hb1⟩
  have hth : (w1.alloc (.cells Try.zeroCells121 121)).there w1.heap.size 0 T.size := fun j hj => by
    have h := (Blk.new w1 121 Try.zeroCells121)
    refine ⟨?_, h.frozen _⟩
    rw [Nat.zero_add, h.cell, Array.getElem?_eq_getElem (by rw [zero121]; omega)]
    rfl
  have hi : (Try.prog.info? 121).map (·.size) = some T.size := by rw [hTs]; kernel_rfl
  have h1 : T.all (·.oneCell') = true := by
    rw [Array.all_eq_true]
    intro j hj
    have h := hT j (by omega)
    rw [Array.getElem?_eq_getElem hj] at h
    injection h with h
    rw [h]
    rfl
  have hr : ((w1.alloc (.cells Try.zeroCells121 121)).setCells w1.heap.size 0 T.toList).rangeAt w1.heap.size 0 T.toList := World.rangeAt_setCells_same _ _ 0 T.toList (by simpa using hth)
  have hx : Below w.heap.size w ((w1.alloc (.cells Try.zeroCells121 121)).setCells w1.heap.size 0 T.toList) := bsc hb1.size _ _ _ (ba hb1 _)
  obtain ⟨n0, hn0⟩ : ∃ n : Nat, n = 4294967295 := ⟨_, rfl⟩
  have hGt : ∀ j, j < 256 → ((w1.alloc (.cells Try.zeroCells121 121)).setCells w1.heap.size 0 T.toList).cell? ⟨w1.heap.size, j, none⟩ = some (.int .u32 (Pm.it 8 j : Nat)) := fun j hj => by
    have h := hr j _ (by rw [Array.getElem?_toList]; exact hT j hj)
    rwa [Nat.zero_add] at h
  have hmx : bits .xor .u32 IntKind.u32.max 0 = ((4294967295 : Nat) : Int) := by
    exact bits_xor 4294967295 0 (by omega) (by omega)
  rw [← hn0] at hmx
  have hn0l : n0 < 4294967296 := by omega
  have HN0 := Lib.hid hn0
  clear hn0
  have hcv := run_to_bytes p
  go_wp2_with (first | (refine wpList_store_mid rfl 121 (.tmp 5) (.tmp 8) rfl _ 0 T rfl rfl hth hi h1 ?_) | (refine wp_store_mid 121 (.tmp 5) (.tmp 8) rfl _ 0 T rfl rfl hth hi h1 ?_))
  clear hr hth h1 hi
  generalize (w1.alloc (.cells Try.zeroCells121 121)).setCells w1.heap.size 0 T.toList = v at *
  generalize w1.heap.size = G at *
  have hbw := bworld_below p v
  have hx2 := bt hx hbw
  have hGb : ∀ j, j < 256 → (bworld p v).cell? ⟨G, j, none⟩ = some (.int .u32 (Pm.it 8 j : Nat)) := fun j hj => by
    rw [hbw.cell (p := ⟨G, j, none⟩) (World.block_lt_of_cell? _ ⟨G, j, none⟩ (hGt j hj))]; exact hGt j hj
  have hbc := bworld_cell p v
  generalize bworld p v = u at *
  generalize v.heap.size = PB at *
  replace hGb := Lib.hid hGb
  replace hbc := Lib.hid hbc
  clear hGt
  go_loopw [0, 14] (fun c i wr => ∃ (k : Nat) (n : Nat), k ≤ p.length ∧ i = .int .i64 k ∧ c = .int .u32 n ∧ n < 4294967296 ∧ Hid (n = Pm.crcOn 4294967295 (p.take k)) ∧ wr = u) (fun _ i _ => p.length - (intOf i).toNat)
  case atStart => exact ⟨0, n0, by omega, rfl, rfl, hn0l, Lib.hid (by rw [HN0.out]; simp [Pm.crcOn]), rfl⟩
  case round =>
    obtain ⟨k, n, hk, rfl, rfl, hn, HN, rfl⟩ := hrel
    by_cases hlt : k < p.length
    · obtain ⟨b, hb⟩ : ∃ b : Nat, b = (p[k]'hlt).toNat := ⟨_, rfl⟩
      have hb2 : b < 256 := by rw [hb]; exact (p[k]'hlt).toNat_lt
      have hbk := hbc.out k hlt
      rw [← hb] at hbk
      obtain ⟨x, hx⟩ : ∃ x, x = (n % 256) ^^^ b := ⟨_, rfl⟩
      have hx8 := bits_xor8 (n % 256) b (by omega) hb2
      rw [← hx] at hx8
      have hx256 : x < 256 := by rw [hx]; exact Nat.xor_lt_two_pow (n := 8) (by omega) hb2
      have hcx := hGb.out x hx256
      have hil := Pm.it_lt 8 (show x < 4294967296 by omega)
      obtain ⟨t, ht⟩ : ∃ t, t = Pm.it 8 x := ⟨_, rfl⟩
      rw [← ht] at hcx hil
      have hxx := bits_xor t (n / 256) hil (by omega)
      obtain ⟨y, hy⟩ : ∃ y, y = t ^^^ (n / 256) := ⟨_, rfl⟩
      rw [← hy] at hxx
      have hyl : y < 4294967296 := by rw [hy]; exact Nat.xor_lt_two_pow (n := 32) hil (by omega)
      have hfin : y = Pm.crcOn 4294967295 (p.take (k + 1)) := by
        rw [hy, ht, hx, List.take_succ_eq_append_getElem hlt]
        unfold Pm.crcOn
        rw [List.foldl_append]
        have e := HN.out
        unfold Pm.crcOn at e
        rw [← e]
        show _ = Pm.it 8 (n ^^^ (p[k]'hlt).toNat)
        rw [Pm.it_table n _, hb]
      have HF := Lib.hid hfin
      clear hfin hy hx ht hb
      simp only [Int.natCast_ediv, Int.natCast_emod, Int.cast_ofNat_Int] at hxx hx8
      go_wp2
      go_roundw
      case rel => exact ⟨k + 1, y, by omega, by go_num, rfl, hyl, HF, trivial⟩
      case measure => simp [intOf]; omega
    · obtain rfl : k = p.length := by omega
      have hmx2 := bits_xor 4294967295 n (by omega) hn
      go_wp2
      go_ret
      have hmax : IntKind.u32.max = ((4294967295 : Nat) : Int) := rfl
      refine ⟨?_, hx2⟩
      rw [hmax, hmx2, HN.out, List.take_length]
      rfl
end Go.Proofs.Ytkbjmgenceghlaa
