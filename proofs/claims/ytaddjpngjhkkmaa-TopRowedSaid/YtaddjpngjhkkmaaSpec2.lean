/-
  Plain words: what is read out of a row's bytes.
-/
import Derived.Test.YtaddjpngjhkkmaaSpec
namespace Go.Proofs.Ytaddjpngjhkkmaa.Pm
def rdMark (l : List UInt8) : Bool := decide (0 < getN l 0 1)
def rdTx (l : List UInt8) : Nat := getN l 1 8
def rdPg (l : List UInt8) : Nat := getN l 9 4
def rdSl (l : List UInt8) : Nat := getN l 13 2
def rdKl (l : List UInt8) : Nat := getN l 15 1
def rdKey (l : List UInt8) : List UInt8 := cutN l 16 (rdKl l)
def rdVl (l : List UInt8) : Nat := getN l (16 + rdKl l) 1
def rdVal (l : List UInt8) : List UInt8 := cutN l (16 + rdKl l + 1) (rdVl l)
def rdEnd (l : List UInt8) : Nat := 16 + rdKl l + 1 + rdVl l
def rdPad (l : List UInt8) : Int := (l.length : Int) - (rdEnd l : Int)
def rdB1 (l : List UInt8) : Bool := (((true && okN l 0 1) && okN l 1 8) && okN l 9 4) && okN l 13 2
def rdB2 (l : List UInt8) : Bool := (rdB1 l && okN l 15 1) && okN l 16 (rdKl l)
def rdOk (l : List UInt8) : Bool := (rdB2 l && okN l (16 + rdKl l) 1) && okN l (16 + rdKl l + 1) (rdVl l)
/-- the row of bytes, if they are just a row's -/
def rdGood (l : List UInt8) : Bool :=
  rdOk l && may (rdKey l) (rdVal l) (rdPg l) (rdSl l) (rdPad l) && decide (enc (rdKey l) (rdVal l) (rdMark l) (rdTx l) (rdPg l) (rdSl l) (rdPad l).toNat = l)
end Go.Proofs.Ytaddjpngjhkkmaa.Pm
