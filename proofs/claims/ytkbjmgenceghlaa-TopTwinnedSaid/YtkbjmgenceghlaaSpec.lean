/-
  Plain words: a number's bytes, the highest first.
-/
namespace Go.Proofs.Ytkbjmgenceghlaa.Pm
/-- the k lowest bytes of n, the highest of them first -/
def be (n : Nat) : Nat → List UInt8
  | 0 => []
  | k + 1 => UInt8.ofNat (n / 256 ^ k) :: be n k
theorem be_length (n k : Nat) : (be n k).length = k := by
  induction k with
  | zero => rfl
  | succ k ih => simp [be, ih]
end Go.Proofs.Ytkbjmgenceghlaa.Pm
namespace Go.Proofs.Ytkbjmgenceghlaa.Pm
/-- bytes as a number, the highest first -/
def num (l : List UInt8) : Nat := l.foldl (fun a b => a * 256 + b.toNat) 0
end Go.Proofs.Ytkbjmgenceghlaa.Pm
namespace Go.Proofs.Ytkbjmgenceghlaa.Pm
def mayKey (k : List UInt8) : Bool := decide (1 ≤ k.length ∧ k.length ≤ 48)
/-- may a row be? -/
def may (k v : List UInt8) (pg sl : Nat) (pad : Int) : Bool :=
  decide ((1 ≤ k.length ∧ k.length ≤ 48) ∧ 0 ≤ pad ∧ pad ≤ 96 ∧ (v.length : Int) ≤ 96 - pad ∧ pg ≤ 1024 ∧ (0 < pg ∨ sl = 0))
/-- so many bytes 0 -/
def zeros (c : Nat) : List UInt8 := List.replicate c 0
theorem zeros_length (c : Nat) : (zeros c).length = c := by simp [zeros]
/-- a row's bytes -/
def enc (k v : List UInt8) (mk : Bool) (tx pg sl pad : Nat) : List UInt8 :=
  (if mk then [1] else [0]) ++ be tx 8 ++ (be pg 4 ++ be sl 2) ++ (be k.length 1 ++ k) ++ (be v.length 1 ++ v) ++ zeros pad
theorem repeat0 (c : Nat) (f : List UInt8 → Nat → List UInt8) (h0 : f [0] 0 = []) (hs : ∀ c, f [0] (c + 1) = [0] ++ f [0] c) : f [0] c = zeros c := by
  induction c with
  | zero => exact h0
  | succ c ih => rw [hs, ih]; simp [zeros, List.replicate_succ]
end Go.Proofs.Ytkbjmgenceghlaa.Pm
namespace Go.Proofs.Ytkbjmgenceghlaa.Pm
/-- is there so much? -/
def okN (l : List UInt8) (a size : Nat) : Bool := decide (a + size ≤ l.length)
def getN (l : List UInt8) (a size : Nat) : Nat := if a + size ≤ l.length then num ((l.drop a).take size) else 0
def cutN (l : List UInt8) (a size : Nat) : List UInt8 := if a + size ≤ l.length then (l.drop a).take size else []
end Go.Proofs.Ytkbjmgenceghlaa.Pm
