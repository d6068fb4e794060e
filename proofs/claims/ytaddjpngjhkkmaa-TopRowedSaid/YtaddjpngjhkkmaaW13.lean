/- A segment that may be: what the code answers, as lemmas for every input that their premises allow; a part of the proof of TopRowed. -/
import Derived.Test.YtaddjpngjhkkmaaPl
namespace Go.Proofs.Ytaddjpngjhkkmaa
open Go.RowKit
attribute [local go_sem ↓] Go.wp_at_zero Go.wp_at_succ
attribute [local go_sem ↓] add_short
set_option maxRecDepth 100000 in
set_option maxHeartbeats 2000000 in
theorem inside_any (n : Nat) (w : World) (h1 : 1 ≤ n) (h2 : n ≤ 1024) :
    Calls Try.prog 49 #[.int .u32 n] w fun e w' => e = .returned (.bool true) ∧ w = w' := by
  go_enter Try.func49, Try.ntmps49
  go_wp2
  go_ret
  exact ⟨by first | rfl | (simp; done) | (simp; omega), rfl⟩
set_option maxRecDepth 100000 in
set_option maxHeartbeats 2000000 in
theorem seg_may1 (tx fi la pg sl : Nat) (w : World) (h1 : 1 ≤ fi) (h2 : fi ≤ 1024) (h3 : 1 ≤ la) (h4 : la ≤ 1024) (h5 : 1 ≤ pg) (h6 : pg ≤ 1024) (hsl : sl < 65536) (ht : 1 ≤ tx)  :
    Calls Try.prog 39 #[.agg #[.int .u64 tx, .int .u8 1, .int .u64 0, .int .u32 fi, .int .u32 la, .int .u32 pg, .int .u16 sl]] w fun e w' => e = .returned (.bool true) ∧ Below w.heap.size w w' := by
  go_enter Try.func39, Try.ntmps39
  go_wp2_with (first | (go_at_call_of 49 (Value.int .u32 (fi : Nat)); ((with_reducible refine (inside_any fi _ h1 h2).mono ?_); rintro e w1 ⟨rfl, rfl⟩)) | (go_at_call_of 49 (Value.int .u32 (la : Nat)); ((with_reducible refine (inside_any la _ h3 h4).mono ?_); rintro e w1 ⟨rfl, rfl⟩)) | (go_at_call_of 49 (Value.int .u32 (pg : Nat)); ((with_reducible refine (inside_any pg _ h5 h6).mono ?_); rintro e w1 ⟨rfl, rfl⟩)))
  go_ret
  exact ⟨by first | rfl | (simp; done) | (simp; omega), ba (Below.refl _ _) _⟩
set_option maxRecDepth 100000 in
set_option maxHeartbeats 2000000 in
theorem seg_may2 (tx fi la pg sl : Nat) (w : World) (h1 : 1 ≤ fi) (h2 : fi ≤ 1024) (h3 : 1 ≤ la) (h4 : la ≤ 1024) (h5 : 1 ≤ pg) (h6 : pg ≤ 1024) (hsl : sl < 65536) (ht : 1 ≤ tx) (num : Nat) (hn : 1 ≤ num) :
    Calls Try.prog 39 #[.agg #[.int .u64 tx, .int .u8 2, .int .u64 num, .int .u32 fi, .int .u32 la, .int .u32 pg, .int .u16 sl]] w fun e w' => e = .returned (.bool true) ∧ Below w.heap.size w w' := by
  have d1 : ((num : Int) == 0) = false := by simp; omega
  go_enter Try.func39, Try.ntmps39
  go_wp2_with (first | (go_at_call_of 49 (Value.int .u32 (fi : Nat)); ((with_reducible refine (inside_any fi _ h1 h2).mono ?_); rintro e w1 ⟨rfl, rfl⟩)) | (go_at_call_of 49 (Value.int .u32 (la : Nat)); ((with_reducible refine (inside_any la _ h3 h4).mono ?_); rintro e w1 ⟨rfl, rfl⟩)) | (go_at_call_of 49 (Value.int .u32 (pg : Nat)); ((with_reducible refine (inside_any pg _ h5 h6).mono ?_); rintro e w1 ⟨rfl, rfl⟩)))
  go_ret
  exact ⟨by first | rfl | (simp; done) | (simp; omega), ba (Below.refl _ _) _⟩
set_option maxRecDepth 100000 in
set_option maxHeartbeats 2000000 in
theorem seg_no1 (tx fi la pg sl : Nat) (w : World) (h1 : 1 ≤ fi) (h2 : fi ≤ 1024) (h3 : 1 ≤ la) (h4 : la ≤ 1024) (h5 : 1 ≤ pg) (h6 : pg ≤ 1024) (hsl : sl < 65536) (ht : 1 ≤ tx)  :
    Calls Try.prog 39 #[.agg #[.int .u64 tx, .int .u8 1, .int .u64 1, .int .u32 fi, .int .u32 la, .int .u32 pg, .int .u16 sl]] w fun e w' => e = .returned (.bool false) ∧ Below w.heap.size w w' := by
  go_enter Try.func39, Try.ntmps39
  go_wp2_with (first | (go_at_call_of 49 (Value.int .u32 (fi : Nat)); ((with_reducible refine (inside_any fi _ h1 h2).mono ?_); rintro e w1 ⟨rfl, rfl⟩)) | (go_at_call_of 49 (Value.int .u32 (la : Nat)); ((with_reducible refine (inside_any la _ h3 h4).mono ?_); rintro e w1 ⟨rfl, rfl⟩)) | (go_at_call_of 49 (Value.int .u32 (pg : Nat)); ((with_reducible refine (inside_any pg _ h5 h6).mono ?_); rintro e w1 ⟨rfl, rfl⟩)))
  go_ret
  exact ⟨by first | rfl | (simp; done) | (simp; omega), ba (Below.refl _ _) _⟩
set_option maxRecDepth 100000 in
set_option maxHeartbeats 2000000 in
theorem seg_no2 (tx fi la pg sl : Nat) (w : World) (h1 : 1 ≤ fi) (h2 : fi ≤ 1024) (h3 : 1 ≤ la) (h4 : la ≤ 1024) (h5 : 1 ≤ pg) (h6 : pg ≤ 1024) (hsl : sl < 65536) (ht : 1 ≤ tx)  :
    Calls Try.prog 39 #[.agg #[.int .u64 tx, .int .u8 2, .int .u64 0, .int .u32 fi, .int .u32 la, .int .u32 pg, .int .u16 sl]] w fun e w' => e = .returned (.bool false) ∧ Below w.heap.size w w' := by
  go_enter Try.func39, Try.ntmps39
  go_wp2_with (first | (go_at_call_of 49 (Value.int .u32 (fi : Nat)); ((with_reducible refine (inside_any fi _ h1 h2).mono ?_); rintro e w1 ⟨rfl, rfl⟩)) | (go_at_call_of 49 (Value.int .u32 (la : Nat)); ((with_reducible refine (inside_any la _ h3 h4).mono ?_); rintro e w1 ⟨rfl, rfl⟩)) | (go_at_call_of 49 (Value.int .u32 (pg : Nat)); ((with_reducible refine (inside_any pg _ h5 h6).mono ?_); rintro e w1 ⟨rfl, rfl⟩)))
  go_ret
  exact ⟨by first | rfl | (simp; done) | (simp; omega), ba (Below.refl _ _) _⟩
set_option maxRecDepth 100000 in
set_option maxHeartbeats 2000000 in
theorem put40 (n size h : Nat) (l : List UInt8) (w : World) (hl : l.length ≤ 1000) (h1 : 1 ≤ size) (hs : size ≤ 8) (hf : n < 256 ^ size) (hO : Blk w h 9 #[.string ⟨l.toArray⟩]) :
    Calls Try.prog 40 #[.int .u64 n, .int .i64 size, .pointer (some ⟨h, 0, none⟩)] w fun e w' => e = .returned (.tuple #[]) ∧ Blk w' h 9 #[.string ⟨(l ++ Pm.be n size).toArray⟩] ∧ Only w w' h := by
  have P := Lib.hid (put_yes n size w h1 hs hf)
  clear hf
  obtain ⟨b, hb⟩ : ∃ b, b = Pm.be n size := ⟨_, rfl⟩
  have hbl : b.length ≤ 8 := by rw [hb, Pm.be_length]; exact hs
  rw [← hb] at P ⊢
  clear hb
  have : Short l 1000 := ⟨hl⟩
  have : Short b 8 := ⟨hbl⟩
  go_enter Try.func40, Try.ntmps40
  go_wp2_with fail
  refine P.out.mono ?_
  rintro e w1 ⟨rfl, hb1⟩
  have hO1 := hO.after hb1
  have co1 := hO1.cell 0
  have fo1 := hO1.frozen 0
  simp at co1
  go_wp2_with fail
  go_end0
  refine ⟨rfl, ?_, ((Only.refl w h).below hb1).set_ 0 _⟩
  have h := hO1.set_ 0 (.string ⟨(l ++ b).toArray⟩)
  simp at h
  simpa using h
end Go.Proofs.Ytaddjpngjhkkmaa
