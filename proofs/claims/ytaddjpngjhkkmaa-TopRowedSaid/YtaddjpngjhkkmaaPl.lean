/-
  The plain law of rows: what is read out of a row's bytes is the row.
-/
import Derived.Test.YtaddjpngjhkkmaaW9
import Derived.Test.YtaddjpngjhkkmaaSpec2
namespace Go.Proofs.Ytaddjpngjhkkmaa
theorem getN_at {l pre post : List UInt8} {n k a : Nat} (h : l = pre ++ Pm.be n k ++ post) (ha : pre.length = a) (hn : n < 256 ^ k) : Pm.getN l a k = n ∧ Pm.okN l a k = true := by
  subst h ha
  exact ⟨getN_be pre post n k hn, by unfold Pm.okN; simp [Pm.be_length]⟩
theorem cutN_at {l pre m post : List UInt8} {a s : Nat} (h : l = pre ++ m ++ post) (ha : pre.length = a) (hs : m.length = s) : Pm.cutN l a s = m ∧ Pm.okN l a s = true := by
  subst h ha hs
  constructor
  · unfold Pm.cutN
    rw [if_pos (by simp), List.append_assoc, List.drop_left, List.take_left]
  · unfold Pm.okN; simp
theorem mark_be (mk : Bool) : (if mk then [1] else [0] : List UInt8) = Pm.be (if mk then 1 else 0) 1 := by cases mk <;> rfl
section
variable (k v : List UInt8) (mk : Bool) (tx pg sl pad : Nat)
theorem enc_parts : Pm.enc k v mk tx pg sl pad = Pm.be (if mk then 1 else 0) 1 ++ Pm.be tx 8 ++ Pm.be pg 4 ++ Pm.be sl 2 ++ Pm.be k.length 1 ++ k ++ Pm.be v.length 1 ++ v ++ Pm.zeros pad := by
  unfold Pm.enc
  rw [mark_be]
  simp [List.append_assoc]
theorem enc_length : (Pm.enc k v mk tx pg sl pad).length = 17 + k.length + v.length + pad := by
  rw [enc_parts]
  simp [Pm.be_length, Pm.zeros_length]
  omega
variable (hk : k.length ≤ 48) (hv : v.length ≤ 96) (htx : tx < 18446744073709551616) (hpg : pg ≤ 1024) (hsl : sl < 65536)
include hk hv htx hpg hsl
theorem rd_enc : Pm.rdMark (Pm.enc k v mk tx pg sl pad) = mk ∧ Pm.rdTx (Pm.enc k v mk tx pg sl pad) = tx ∧ Pm.rdPg (Pm.enc k v mk tx pg sl pad) = pg ∧ Pm.rdSl (Pm.enc k v mk tx pg sl pad) = sl ∧
    Pm.rdKey (Pm.enc k v mk tx pg sl pad) = k ∧ Pm.rdVal (Pm.enc k v mk tx pg sl pad) = v ∧ Pm.rdPad (Pm.enc k v mk tx pg sl pad) = pad ∧ Pm.rdOk (Pm.enc k v mk tx pg sl pad) = true ∧
    Pm.rdKl (Pm.enc k v mk tx pg sl pad) = k.length ∧ Pm.rdVl (Pm.enc k v mk tx pg sl pad) = v.length := by
  have hp := enc_parts k v mk tx pg sl pad
  have hl := enc_length k v mk tx pg sl pad
  generalize Pm.enc k v mk tx pg sl pad = l at *
  have h0 := getN_at (l := l) (pre := []) (n := if mk then 1 else 0) (k := 1) (a := 0) (post := Pm.be tx 8 ++ Pm.be pg 4 ++ Pm.be sl 2 ++ Pm.be k.length 1 ++ k ++ Pm.be v.length 1 ++ v ++ Pm.zeros pad) (by rw [hp]; simp [List.append_assoc]) rfl (by cases mk <;> decide)
  have h1 := getN_at (l := l) (pre := Pm.be (if mk then 1 else 0) 1) (n := tx) (k := 8) (a := 1) (post := Pm.be pg 4 ++ Pm.be sl 2 ++ Pm.be k.length 1 ++ k ++ Pm.be v.length 1 ++ v ++ Pm.zeros pad) (by rw [hp]; simp [List.append_assoc]) (by simp [Pm.be_length]) (by omega)
  have h2 := getN_at (l := l) (pre := Pm.be (if mk then 1 else 0) 1 ++ Pm.be tx 8) (n := pg) (k := 4) (a := 9) (post := Pm.be sl 2 ++ Pm.be k.length 1 ++ k ++ Pm.be v.length 1 ++ v ++ Pm.zeros pad) (by rw [hp]; simp [List.append_assoc]) (by simp [Pm.be_length]) (by omega)
  have h3 := getN_at (l := l) (pre := Pm.be (if mk then 1 else 0) 1 ++ Pm.be tx 8 ++ Pm.be pg 4) (n := sl) (k := 2) (a := 13) (post := Pm.be k.length 1 ++ k ++ Pm.be v.length 1 ++ v ++ Pm.zeros pad) (by rw [hp]; simp [List.append_assoc]) (by simp [Pm.be_length]) (by omega)
  have h4 := getN_at (l := l) (pre := Pm.be (if mk then 1 else 0) 1 ++ Pm.be tx 8 ++ Pm.be pg 4 ++ Pm.be sl 2) (n := k.length) (k := 1) (a := 15) (post := k ++ Pm.be v.length 1 ++ v ++ Pm.zeros pad) (by rw [hp]; simp [List.append_assoc]) (by simp [Pm.be_length]) (by omega)
  have h5 := cutN_at (l := l) (pre := Pm.be (if mk then 1 else 0) 1 ++ Pm.be tx 8 ++ Pm.be pg 4 ++ Pm.be sl 2 ++ Pm.be k.length 1) (m := k) (a := 16) (s := k.length) (post := Pm.be v.length 1 ++ v ++ Pm.zeros pad) (by rw [hp]; simp [List.append_assoc]) (by simp [Pm.be_length]) rfl
  have h6 := getN_at (l := l) (pre := Pm.be (if mk then 1 else 0) 1 ++ Pm.be tx 8 ++ Pm.be pg 4 ++ Pm.be sl 2 ++ Pm.be k.length 1 ++ k) (n := v.length) (k := 1) (a := 16 + k.length) (post := v ++ Pm.zeros pad) (by rw [hp]; simp [List.append_assoc]) (by simp [Pm.be_length] <;> omega) (by omega)
  have h7 := cutN_at (l := l) (pre := Pm.be (if mk then 1 else 0) 1 ++ Pm.be tx 8 ++ Pm.be pg 4 ++ Pm.be sl 2 ++ Pm.be k.length 1 ++ k ++ Pm.be v.length 1) (m := v) (a := 16 + k.length + 1) (s := v.length) (post := Pm.zeros pad) (by rw [hp]) (by simp [Pm.be_length] <;> omega) rfl
  have ekl : Pm.rdKl l = k.length := h4.1
  have evl : Pm.rdVl l = v.length := by unfold Pm.rdVl; rw [ekl]; exact h6.1
  refine ⟨?_, h1.1, h2.1, h3.1, ?_, ?_, ?_, ?_, ekl, evl⟩
  · unfold Pm.rdMark; rw [h0.1]; cases mk <;> rfl
  · unfold Pm.rdKey; rw [ekl]; exact h5.1
  · unfold Pm.rdVal; rw [ekl, evl]; exact h7.1
  · unfold Pm.rdPad Pm.rdEnd; rw [ekl, evl, hl]; omega
  · unfold Pm.rdOk Pm.rdB2 Pm.rdB1; rw [ekl, evl, h0.2, h1.2, h2.2, h3.2, h4.2, h5.2, h6.2, h7.2]; rfl
theorem rdGood_enc (hm : Pm.may k v pg sl pad = true) : Pm.rdGood (Pm.enc k v mk tx pg sl pad) = true := by
  obtain ⟨e0, e1, e2, e3, e4, e5, e6, e7, _, _⟩ := rd_enc k v mk tx pg sl pad hk hv htx hpg hsl
  unfold Pm.rdGood
  rw [e0, e1, e2, e3, e4, e5, e6, e7, hm, Int.toNat_natCast]
  simp
end
/-- bytes that are a row's are just those that its reading gives again -/
theorem rdGood_is {l : List UInt8} (h : Pm.rdGood l = true) : Pm.enc (Pm.rdKey l) (Pm.rdVal l) (Pm.rdMark l) (Pm.rdTx l) (Pm.rdPg l) (Pm.rdSl l) (Pm.rdPad l).toNat = l ∧ Pm.may (Pm.rdKey l) (Pm.rdVal l) (Pm.rdPg l) (Pm.rdSl l) (Pm.rdPad l) = true := by
  unfold Pm.rdGood at h
  simp only [Bool.and_eq_true, decide_eq_true_eq] at h
  exact ⟨h.2, h.1.2⟩
theorem zeros_snoc (n : Nat) : Pm.zeros n ++ [0] = Pm.zeros (n + 1) := by unfold Pm.zeros; rw [← List.replicate_succ']
/-- one byte 0 more is one more of the pad -/
theorem enc_more (k v : List UInt8) (mk : Bool) (tx pg sl pad : Nat) : Pm.enc k v mk tx pg sl pad ++ [0] = Pm.enc k v mk tx pg sl (pad + 1) := by
  rw [enc_parts, enc_parts, List.append_assoc _ _ [0], zeros_snoc]
theorem may_more (k v : List UInt8) (pg sl pad : Nat) (hm : Pm.may k v pg sl pad = true) : Pm.may k v pg sl ((pad + 1 : Nat) : Int) = decide (v.length + pad < 96) := by
  unfold Pm.may at *
  rw [Bool.eq_iff_iff]
  simp only [decide_eq_true_eq] at *
  omega
theorem may_less (k v : List UInt8) (pg sl pad : Nat) (hm : Pm.may k v pg sl ((pad + 1 : Nat) : Int) = true) : Pm.may k v pg sl (pad : Int) = true := by
  unfold Pm.may at *
  simp at *
  omega
section
variable (k v : List UInt8) (mk : Bool) (tx pg sl pad : Nat)
variable (hk : k.length ≤ 48) (hv : v.length ≤ 96) (htx : tx < 18446744073709551616) (hpg : pg ≤ 1024) (hsl : sl < 65536)
include hk hv htx hpg hsl
theorem rdGood_more (hm : Pm.may k v pg sl pad = true) : Pm.rdGood (Pm.enc k v mk tx pg sl pad ++ [0]) = decide (v.length + pad < 96) := by
  rw [enc_more]
  by_cases h : v.length + pad < 96
  · rw [rdGood_enc k v mk tx pg sl (pad + 1) hk hv htx hpg hsl (by rw [may_more k v pg sl pad hm]; simpa using h)]
    simp [h]
  · have e := rd_enc k v mk tx pg sl (pad + 1) hk hv htx hpg hsl
    have hf : Pm.may k v pg sl ((pad + 1 : Nat) : Int) = false := by rw [may_more k v pg sl pad hm]; simpa using h
    have : decide (v.length + pad < 96) = false := by simpa using h
    rw [this]
    unfold Pm.rdGood
    rw [e.2.2.2.2.1, e.2.2.2.2.2.1, e.2.2.1, e.2.2.2.1, e.2.2.2.2.2.2.1, hf]
    simp
theorem rdGood_less (hm : Pm.may k v pg sl pad = true) : Pm.rdGood ((Pm.enc k v mk tx pg sl pad).take ((Pm.enc k v mk tx pg sl pad).length - 1)) = decide (0 < pad) := by
  cases pad with
  | succ n =>
    rw [← enc_more]
    have : (Pm.enc k v mk tx pg sl n ++ [0]).take ((Pm.enc k v mk tx pg sl n ++ [0]).length - 1) = Pm.enc k v mk tx pg sl n := by simp
    rw [this, rdGood_enc k v mk tx pg sl n hk hv htx hpg hsl (may_less k v pg sl n hm)]
    simp
  | zero =>
    have hl := enc_length k v mk tx pg sl 0
    have e := rd_enc k v mk tx pg sl 0 hk hv htx hpg hsl
    generalize Pm.enc k v mk tx pg sl 0 = l at *
    obtain ⟨_, _, _, _, _, _, _, _, ekl, evl⟩ := e
    have hc : ∀ a s, a + s ≤ l.length - 1 → Pm.getN (l.take (l.length - 1)) a s = Pm.getN l a s := by
      intro a s h
      unfold Pm.getN
      rw [if_pos (by simp; omega), if_pos (by omega), List.drop_take, List.take_take, Nat.min_eq_left (by omega)]
    have hkl : Pm.rdKl (l.take (l.length - 1)) = k.length := by
      unfold Pm.rdKl; rw [hc 15 1 (by omega)]; exact ekl
    by_cases hv0 : v.length = 0
    · have : Pm.okN (l.take (l.length - 1)) (16 + Pm.rdKl (l.take (l.length - 1))) 1 = false := by unfold Pm.okN; rw [hkl]; simp; omega
      unfold Pm.rdGood Pm.rdOk
      rw [this]
      simp
    · have hvl : Pm.rdVl (l.take (l.length - 1)) = v.length := by
        unfold Pm.rdVl; rw [hkl, hc _ 1 (by omega)]
        unfold Pm.rdVl at evl; rw [ekl] at evl; exact evl
      have : Pm.okN (l.take (l.length - 1)) (16 + Pm.rdKl (l.take (l.length - 1)) + 1) (Pm.rdVl (l.take (l.length - 1))) = false := by unfold Pm.okN; rw [hkl, hvl]; simp; omega
      unfold Pm.rdGood Pm.rdOk
      rw [this]
      simp
end
end Go.Proofs.Ytaddjpngjhkkmaa
