/- An undo record and a segment: code and reading together: what the code answers, as lemmas for every input that their premises allow; a part of the proof of TopRowed. -/
import Derived.Test.YtaddjpngjhkkmaaW17
import Derived.Test.YtaddjpngjhkkmaaW15
import Derived.Test.YtaddjpngjhkkmaaW14
import Derived.Test.YtaddjpngjhkkmaaW13
import Derived.Test.YtaddjpngjhkkmaaW12
import Derived.Test.YtaddjpngjhkkmaaW10
import Derived.Test.YtaddjpngjhkkmaaPl
namespace Go.Proofs.Ytaddjpngjhkkmaa
open Go.RowKit
theorem seg_all (tx st num fi la pg sl : Nat) (htx : tx < 18446744073709551616) (hst : st < 256) (hnum : num < 18446744073709551616) (hfi : fi ≤ 1024) (hla : la ≤ 1024) (hpg : pg ≤ 1024) (hsl : sl < 65536)
    (hM : ∀ W : World, Calls Try.prog 39 #[.agg #[.int .u64 tx, .int .u8 st, .int .u64 num, .int .u32 fi, .int .u32 la, .int .u32 pg, .int .u16 sl]] W fun e w' => e = .returned (.bool true) ∧ Below W.heap.size W w') :
    ∃ B : List UInt8, B.length = 31 ∧
      (∀ W : World, Calls Try.prog 17 #[.agg #[.int .u64 tx, .int .u8 st, .int .u64 num, .int .u32 fi, .int .u32 la, .int .u32 pg, .int .u16 sl]] W fun e w' => e = .returned (.tuple #[.string ⟨B.toArray⟩, .int .i64 0]) ∧ Below W.heap.size W w') ∧
      (∀ W : World, Calls Try.prog 19 #[.agg #[.int .u64 tx, .int .u8 st, .int .u64 num, .int .u32 fi, .int .u32 la, .int .u32 pg, .int .u16 sl]] W fun e w' => e = .returned (.string ⟨B.toArray⟩) ∧ Below W.heap.size W w') ∧
      (∀ W : World, Calls Try.prog 18 #[.string ⟨B.toArray⟩] W fun e w' => e = .returned (.tuple #[.agg #[.int .u64 tx, .int .u8 st, .int .u64 num, .int .u32 fi, .int .u32 la, .int .u32 pg, .int .u16 sl], .int .i64 0]) ∧ Below W.heap.size W w') := by
  obtain ⟨B, hB⟩ : ∃ B, B = Pm.be tx 8 ++ Pm.be st 1 ++ Pm.be num 8 ++ Pm.be fi 4 ++ Pm.be la 4 ++ Pm.be pg 4 ++ Pm.be sl 2 := ⟨_, rfl⟩
  have hl : B.length = 31 := by rw [hB]; simp [Pm.be_length]
  refine ⟨B, hl, fun W => ?_, fun W => ?_, fun W => ?_⟩
  · rw [hB]; exact seg_encode tx st num fi la pg sl W htx hst hnum (by omega) (by omega) (by omega) hsl hM
  · rw [hB]; exact segged_any tx st num fi la pg sl W htx hst hnum (by omega) (by omega) (by omega) hsl
  · refine seg_decode B tx st num fi la pg sl W hl ?_ ?_ ?_ ?_ ?_ ?_ ?_ hst (by omega) (by omega) (by omega) hsl hM
    · exact (getN_at (l := B) (pre := []) (post := Pm.be st 1 ++ Pm.be num 8 ++ Pm.be fi 4 ++ Pm.be la 4 ++ Pm.be pg 4 ++ Pm.be sl 2) (by rw [hB]; simp only [List.append_assoc, List.nil_append]) (by simp) (by omega)).1
    · exact (getN_at (l := B) (pre := Pm.be tx 8) (post := Pm.be num 8 ++ Pm.be fi 4 ++ Pm.be la 4 ++ Pm.be pg 4 ++ Pm.be sl 2) (by rw [hB]; simp only [List.append_assoc]) (by simp [Pm.be_length]) (by omega)).1
    · exact (getN_at (l := B) (pre := Pm.be tx 8 ++ Pm.be st 1) (post := Pm.be fi 4 ++ Pm.be la 4 ++ Pm.be pg 4 ++ Pm.be sl 2) (by rw [hB]; simp only [List.append_assoc]) (by simp [Pm.be_length]) (by omega)).1
    · exact (getN_at (l := B) (pre := Pm.be tx 8 ++ Pm.be st 1 ++ Pm.be num 8) (post := Pm.be la 4 ++ Pm.be pg 4 ++ Pm.be sl 2) (by rw [hB]; simp only [List.append_assoc]) (by simp [Pm.be_length]) (by omega)).1
    · exact (getN_at (l := B) (pre := Pm.be tx 8 ++ Pm.be st 1 ++ Pm.be num 8 ++ Pm.be fi 4) (post := Pm.be pg 4 ++ Pm.be sl 2) (by rw [hB]; simp only [List.append_assoc]) (by simp [Pm.be_length]) (by omega)).1
    · exact (getN_at (l := B) (pre := Pm.be tx 8 ++ Pm.be st 1 ++ Pm.be num 8 ++ Pm.be fi 4 ++ Pm.be la 4) (post := Pm.be sl 2) (by rw [hB]) (by simp [Pm.be_length]) (by omega)).1
    · exact (getN_at (l := B) (pre := Pm.be tx 8 ++ Pm.be st 1 ++ Pm.be num 8 ++ Pm.be fi 4 ++ Pm.be la 4 ++ Pm.be pg 4) (post := []) (by rw [hB]; simp only [List.append_nil]) (by simp [Pm.be_length]) (by omega)).1
theorem undo_all1 (k : List UInt8) (tx pg sl : Nat) (hk1 : 1 ≤ k.length) (hk : k.length ≤ 48) (ht : 1 ≤ tx) (hp : pg ≤ 1024) (hps : pg = 0 → sl = 0) (hsl : sl < 65536) (htx : tx < 18446744073709551616)  :
    ∃ B : List UInt8, B.length ≤ 1000 ∧
      (∀ W : World, Calls Try.prog 14 #[.agg #[.int .u8 1, .int .u64 tx, .int .u32 pg, .int .u16 sl, .string ⟨k.toArray⟩, .string ⟨#[]⟩, .bool false, .int .u64 0, .int .u32 0, .int .u16 0, .string ⟨#[]⟩, .int .i64 0]] W fun e w' => e = .returned (.tuple #[.string ⟨B.toArray⟩, .int .i64 0]) ∧ Below W.heap.size W w') ∧
      (∀ W : World, Calls Try.prog 16 #[.agg #[.int .u8 1, .int .u64 tx, .int .u32 pg, .int .u16 sl, .string ⟨k.toArray⟩, .string ⟨#[]⟩, .bool false, .int .u64 0, .int .u32 0, .int .u16 0, .string ⟨#[]⟩, .int .i64 0]] W fun e w' => e = .returned (.string ⟨B.toArray⟩) ∧ Below W.heap.size W w') ∧
      (∀ W : World, Calls Try.prog 15 #[.string ⟨B.toArray⟩] W fun e w' => e = .returned (.tuple #[.agg #[.int .u8 1, .int .u64 tx, .int .u32 pg, .int .u16 sl, .string ⟨k.toArray⟩, .string ⟨#[]⟩, .bool false, .int .u64 0, .int .u32 0, .int .u16 0, .string ⟨#[]⟩, .int .i64 0], .int .i64 0]) ∧ Below W.heap.size W w') := by
  obtain ⟨B, hB⟩ : ∃ B, B = Pm.be 1 1 ++ Pm.be tx 8 ++ Pm.be pg 4 ++ Pm.be sl 2 ++ k := ⟨_, rfl⟩
  have hl : B.length = 15 + (k).length := by rw [hB]; simp [Pm.be_length]; omega
  have hd : B.drop 15 = k := by
    have := List.drop_left (l₁ := Pm.be 1 1 ++ Pm.be tx 8 ++ Pm.be pg 4 ++ Pm.be sl 2) (l₂ := k)
    rw [← hB] at this
    simpa [Pm.be_length] using this
  refine ⟨B, by omega, fun W => ?_, fun W => ?_, fun W => ?_⟩
  · rw [hB]; exact undo_encode1 k tx pg sl W hk1 hk ht hp hps hsl htx
  · rw [hB]; exact undone1 k tx pg sl W hk1 hk ht hp hps hsl htx
  · refine undo_decode1 B k tx pg sl W (by omega) (by omega) ?_ ?_ ?_ ?_ hd hk1 hk ht hp hps hsl
    · exact (getN_at (l := B) (pre := []) (post := Pm.be tx 8 ++ Pm.be pg 4 ++ Pm.be sl 2 ++ k) (by rw [hB]; simp only [List.append_assoc, List.nil_append]) (by simp [Pm.be_length]) (by omega)).1
    · exact (getN_at (l := B) (pre := Pm.be 1 1) (post := Pm.be pg 4 ++ Pm.be sl 2 ++ k) (by rw [hB]; simp only [List.append_assoc, List.nil_append]) (by simp [Pm.be_length]) (by omega)).1
    · exact (getN_at (l := B) (pre := Pm.be 1 1 ++ Pm.be tx 8) (post := Pm.be sl 2 ++ k) (by rw [hB]; simp only [List.append_assoc, List.nil_append]) (by simp [Pm.be_length]) (by omega)).1
    · exact (getN_at (l := B) (pre := Pm.be 1 1 ++ Pm.be tx 8 ++ Pm.be pg 4) (post := k) (by rw [hB]) (by simp [Pm.be_length]) (by omega)).1
theorem undo_all2 (k v : List UInt8) (mk : Bool) (tx pg sl wtx wpg wsl pad : Nat) (hk1 : 1 ≤ k.length) (hk : k.length ≤ 48) (ht : 1 ≤ tx) (hp : pg ≤ 1024) (hps : pg = 0 → sl = 0) (hsl : sl < 65536) (htx : tx < 18446744073709551616) (hwt : wtx < 18446744073709551616) (hv : v.length ≤ 96) (hpad : pad ≤ 96) (hwpg : wpg ≤ 1024) (hwsl : wsl < 65536) (hm : Pm.may k v wpg wsl pad = true) :
    ∃ B : List UInt8, B.length ≤ 1000 ∧
      (∀ W : World, Calls Try.prog 14 #[.agg #[.int .u8 2, .int .u64 tx, .int .u32 pg, .int .u16 sl, .string ⟨k.toArray⟩, .string ⟨k.toArray⟩, .bool mk, .int .u64 wtx, .int .u32 wpg, .int .u16 wsl, .string ⟨v.toArray⟩, .int .i64 pad]] W fun e w' => e = .returned (.tuple #[.string ⟨B.toArray⟩, .int .i64 0]) ∧ Below W.heap.size W w') ∧
      (∀ W : World, Calls Try.prog 16 #[.agg #[.int .u8 2, .int .u64 tx, .int .u32 pg, .int .u16 sl, .string ⟨k.toArray⟩, .string ⟨k.toArray⟩, .bool mk, .int .u64 wtx, .int .u32 wpg, .int .u16 wsl, .string ⟨v.toArray⟩, .int .i64 pad]] W fun e w' => e = .returned (.string ⟨B.toArray⟩) ∧ Below W.heap.size W w') ∧
      (∀ W : World, Calls Try.prog 15 #[.string ⟨B.toArray⟩] W fun e w' => e = .returned (.tuple #[.agg #[.int .u8 2, .int .u64 tx, .int .u32 pg, .int .u16 sl, .string ⟨k.toArray⟩, .string ⟨k.toArray⟩, .bool mk, .int .u64 wtx, .int .u32 wpg, .int .u16 wsl, .string ⟨v.toArray⟩, .int .i64 pad], .int .i64 0]) ∧ Below W.heap.size W w') := by
  obtain ⟨B, hB⟩ : ∃ B, B = Pm.be 2 1 ++ Pm.be tx 8 ++ Pm.be pg 4 ++ Pm.be sl 2 ++ Pm.enc k v mk wtx wpg wsl pad := ⟨_, rfl⟩
  have hE := enc_length k v mk wtx wpg wsl pad
  have hl : B.length = 15 + (Pm.enc k v mk wtx wpg wsl pad).length := by rw [hB]; simp [Pm.be_length]; omega
  have hd : B.drop 15 = Pm.enc k v mk wtx wpg wsl pad := by
    have := List.drop_left (l₁ := Pm.be 2 1 ++ Pm.be tx 8 ++ Pm.be pg 4 ++ Pm.be sl 2) (l₂ := Pm.enc k v mk wtx wpg wsl pad)
    rw [← hB] at this
    simpa [Pm.be_length] using this
  refine ⟨B, by omega, fun W => ?_, fun W => ?_, fun W => ?_⟩
  · rw [hB]; exact undo_encode2 k v mk tx pg sl wtx wpg wsl pad W hk1 hk ht hp hps hsl htx hwt hv hpad hwpg hwsl hm
  · rw [hB]; exact undone2 k v mk tx pg sl wtx wpg wsl pad W hk1 hk ht hp hps hsl htx hwt hv hpad hwpg hwsl hm
  · refine undo_decode2 B k v mk tx pg sl wtx wpg wsl pad W (by omega) (by omega) ?_ ?_ ?_ ?_ hd hk1 hk ht hp hps hsl hwt hv hpad hwpg hwsl hm
    · exact (getN_at (l := B) (pre := []) (post := Pm.be tx 8 ++ Pm.be pg 4 ++ Pm.be sl 2 ++ Pm.enc k v mk wtx wpg wsl pad) (by rw [hB]; simp only [List.append_assoc, List.nil_append]) (by simp [Pm.be_length]) (by omega)).1
    · exact (getN_at (l := B) (pre := Pm.be 2 1) (post := Pm.be pg 4 ++ Pm.be sl 2 ++ Pm.enc k v mk wtx wpg wsl pad) (by rw [hB]; simp only [List.append_assoc, List.nil_append]) (by simp [Pm.be_length]) (by omega)).1
    · exact (getN_at (l := B) (pre := Pm.be 2 1 ++ Pm.be tx 8) (post := Pm.be sl 2 ++ Pm.enc k v mk wtx wpg wsl pad) (by rw [hB]; simp only [List.append_assoc, List.nil_append]) (by simp [Pm.be_length]) (by omega)).1
    · exact (getN_at (l := B) (pre := Pm.be 2 1 ++ Pm.be tx 8 ++ Pm.be pg 4) (post := Pm.enc k v mk wtx wpg wsl pad) (by rw [hB]) (by simp [Pm.be_length]) (by omega)).1
end Go.Proofs.Ytaddjpngjhkkmaa
