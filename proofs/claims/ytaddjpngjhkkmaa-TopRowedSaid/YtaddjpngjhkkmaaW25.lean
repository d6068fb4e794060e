/- The seven bad rows: what the code answers, as lemmas for every input that their premises allow; a part of the proof of TopRowed. -/
import Derived.Test.YtaddjpngjhkkmaaW5
namespace Go.Proofs.Ytaddjpngjhkkmaa
open Go.RowKit
/-- a row that may not be: its code is refused, it may not be, it has no size -/
structure BadRow (r : Array Value) : Prop where
  enc : ∀ W : World, Calls Try.prog 5 #[.agg r] W fun e w' => e = .returned (.tuple #[.string ⟨#[]⟩, .int .i64 2]) ∧ Below W.heap.size W w'
  may : ∀ W : World, Calls Try.prog 9 #[.agg r] W fun e w' => e = .returned (.bool false) ∧ Below W.heap.size W w'
  size : ∀ W : World, Calls Try.prog 8 #[.agg r] W fun e w' => e = .returned (.int .i64 0) ∧ Below W.heap.size W w'
theorem bad_of (k v : List UInt8) (pg sl : Nat) (pad : Int) (hk : k.length ≤ 1000000) (hv : v.length ≤ 1000000) (hp : -1000000 ≤ pad ∧ pad ≤ 1000000) (hpg : pg < 4294967296) (hsl : sl < 65536) (hm : Pm.may k v pg sl pad = false) :
    BadRow #[.string ⟨k.toArray⟩, .bool false, .int .u64 0, .int .u32 pg, .int .u16 sl, .string ⟨v.toArray⟩, .int .i64 pad] := by
  refine ⟨fun W => row_encode_no k v false 0 pg sl pad W hk hv hp hpg hsl hm, fun W => ?_, fun W => ?_⟩
  · have h := row_may k v false 0 pg sl pad W hk hv hp hpg hsl
    rw [hm] at h
    exact h
  · have h := row_size k v false 0 pg sl pad W hk hv hp hpg hsl
    rw [hm, if_neg (by simp)] at h
    exact h
theorem bad_rows (K V v : List UInt8) (hK : K.length = 49) (hV : V.length = 97) (hv : v.length ≤ 96) :
    BadRow #[.string ⟨#[]⟩, .bool false, .int .u64 0, .int .u32 0, .int .u16 0, .string ⟨#[120]⟩, .int .i64 0] ∧
    BadRow #[.string ⟨K.toArray⟩, .bool false, .int .u64 0, .int .u32 0, .int .u16 0, .string ⟨#[]⟩, .int .i64 0] ∧
    BadRow #[.string ⟨#[107]⟩, .bool false, .int .u64 0, .int .u32 0, .int .u16 0, .string ⟨V.toArray⟩, .int .i64 0] ∧
    BadRow #[.string ⟨#[107]⟩, .bool false, .int .u64 0, .int .u32 0, .int .u16 0, .string ⟨v.toArray⟩, .int .i64 (97 - (v.length : Int))] ∧
    BadRow #[.string ⟨#[107]⟩, .bool false, .int .u64 0, .int .u32 0, .int .u16 1, .string ⟨#[]⟩, .int .i64 0] ∧
    BadRow #[.string ⟨#[107]⟩, .bool false, .int .u64 0, .int .u32 1025, .int .u16 0, .string ⟨#[]⟩, .int .i64 0] ∧
    BadRow #[.string ⟨#[107]⟩, .bool false, .int .u64 0, .int .u32 0, .int .u16 0, .string ⟨#[]⟩, .int .i64 (-1)] := by
  refine ⟨bad_of [] [120] 0 0 0 (by simp) (by simp) (by omega) (by omega) (by omega) (by simp [Pm.may]), bad_of K [] 0 0 0 (by omega) (by simp) (by omega) (by omega) (by omega) (by simp [Pm.may]; omega),
    bad_of [107] V 0 0 0 (by simp) (by omega) (by omega) (by omega) (by omega) (by simp [Pm.may]; omega), bad_of [107] v 0 0 (97 - (v.length : Int)) (by simp) (by omega) (by omega) (by omega) (by omega) (by simp [Pm.may]; omega),
    bad_of [107] [] 0 1 0 (by simp) (by simp) (by omega) (by omega) (by omega) (by simp [Pm.may]), bad_of [107] [] 1025 0 0 (by simp) (by simp) (by omega) (by omega) (by omega) (by simp [Pm.may]),
    bad_of [107] [] 0 0 (-1) (by simp) (by simp) (by omega) (by omega) (by omega) (by simp [Pm.may])⟩
end Go.Proofs.Ytaddjpngjhkkmaa
