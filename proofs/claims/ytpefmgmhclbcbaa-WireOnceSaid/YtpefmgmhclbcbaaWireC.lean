/- Contracts of the small functions of layer 26: how wide a number is, an event's numbers. -/
import Derived.Test.YtpefmgmhclbcbaaProg
import Derived.Test.YtpefmgmhclbcbaaFrame
import Derived.Test.YtpefmgmhclbcbaaWireB
import Derived.WalkKit
import Derived.Handy
import Derived.WalkLawsBesides
import Derived.WalkSpells
import Derived.Below
import Derived.Lib.Hide
import Derived.Outline
namespace Go.Proofs.Ytpefmgmhclbcbaa.WireC
open Go.RowKit Go.Proofs.Ytpefmgmhclbcbaa.Frame Go.Proofs.Ytpefmgmhclbcbaa.WireA Go.Proofs.Ytpefmgmhclbcbaa.WireB
set_option linter.unusedVariables false
set_option linter.unusedSimpArgs false
theorem sh1 (n : Int) (hn : In64 n) : (wrap64 (n * 72057594037927936) / 72057594037927936 != n) = !fits n 1 := by
  unfold In64 at hn
  unfold fits wrap64
  rw [p8_1, Bool.eq_iff_iff]
  simp only [bne_iff_ne, ne_eq, Bool.not_eq_true', decide_eq_false_iff_not]
  omega
theorem sh2 (n : Int) (hn : In64 n) : (wrap64 (n * 281474976710656) / 281474976710656 != n) = !fits n 2 := by
  unfold In64 at hn
  unfold fits wrap64
  rw [p8_2, Bool.eq_iff_iff]
  simp only [bne_iff_ne, ne_eq, Bool.not_eq_true', decide_eq_false_iff_not]
  omega
theorem sh3 (n : Int) (hn : In64 n) : (wrap64 (n * 1099511627776) / 1099511627776 != n) = !fits n 3 := by
  unfold In64 at hn
  unfold fits wrap64
  rw [p8_3, Bool.eq_iff_iff]
  simp only [bne_iff_ne, ne_eq, Bool.not_eq_true', decide_eq_false_iff_not]
  omega
theorem sh4 (n : Int) (hn : In64 n) : (wrap64 (n * 4294967296) / 4294967296 != n) = !fits n 4 := by
  unfold In64 at hn
  unfold fits wrap64
  rw [p8_4, Bool.eq_iff_iff]
  simp only [bne_iff_ne, ne_eq, Bool.not_eq_true', decide_eq_false_iff_not]
  omega
theorem sh5 (n : Int) (hn : In64 n) : (wrap64 (n * 16777216) / 16777216 != n) = !fits n 5 := by
  unfold In64 at hn
  unfold fits wrap64
  rw [p8_5, Bool.eq_iff_iff]
  simp only [bne_iff_ne, ne_eq, Bool.not_eq_true', decide_eq_false_iff_not]
  omega
theorem sh6 (n : Int) (hn : In64 n) : (wrap64 (n * 65536) / 65536 != n) = !fits n 6 := by
  unfold In64 at hn
  unfold fits wrap64
  rw [p8_6, Bool.eq_iff_iff]
  simp only [bne_iff_ne, ne_eq, Bool.not_eq_true', decide_eq_false_iff_not]
  omega
theorem sh7 (n : Int) (hn : In64 n) : (wrap64 (n * 256) / 256 != n) = !fits n 7 := by
  unfold In64 at hn
  unfold fits wrap64
  rw [p8_7, Bool.eq_iff_iff]
  simp only [bne_iff_ne, ne_eq, Bool.not_eq_true', decide_eq_false_iff_not]
  omega
set_option maxHeartbeats 1000000 in
theorem width_any (n : Int) (hn : In64 n) (w : World) : Calls Try.prog 57 #[.int .i64 n] w fun e w' => e = .returned (.int .i64 (width n)) ∧ w = w' := by
  go_enter Try.func57, Try.ntmps57
  go_wp2
  go_loop [3] (fun i => ∃ k : Nat, 1 ≤ k ∧ k ≤ width n ∧ i = .int .i64 k) (fun i => 8 - (intOf i).toNat)
  case atStart => exact ⟨1, by omega, (width_lo n).1, rfl⟩
  case round =>
    obtain ⟨k, h1, h2, rfl⟩ := hrel
    have hw := width_lo n
    rcases (by omega : k = 1 ∨ k = 2 ∨ k = 3 ∨ k = 4 ∨ k = 5 ∨ k = 6 ∨ k = 7 ∨ k = 8) with rfl | rfl | rfl | rfl | rfl | rfl | rfl | rfl
    · have hs := Lib.hid (sh1 n hn)
      go_wp2
      · have ht : (wrap64 (n * 72057594037927936) / 72057594037927936 != n) = true := by assumption
        rw [hs.out] at ht
        have hf : fits n 1 = false := by simpa using ht
        have hw2 : 2 ≤ width n := by rcases width_cases n with h | h | h | h | h | h | h | h <;> first | omega | (exfalso; have e := h.2.2; first | (rw [fits_le (by omega) e] at hf; cases hf)) | (exfalso; rw [fits_le (by omega) h.2] at hf; cases hf)
        exact ⟨⟨2, by omega, hw2, rfl⟩, by simp [intOf]⟩
      · have ht : (wrap64 (n * 72057594037927936) / 72057594037927936 != n) = false := by assumption
        rw [hs.out] at ht
        have hf : fits n 1 = true := by simpa using ht
        have hw2 : width n = 1 := by
          rcases Nat.lt_or_ge 1 (width n) with a | a
          · rw [width_least (by omega) a] at hf; cases hf
          · omega
        go_returns
        exact ⟨by rw [hw2]; rfl, rfl⟩
    · have hs := Lib.hid (sh2 n hn)
      go_wp2
      · have ht : (wrap64 (n * 281474976710656) / 281474976710656 != n) = true := by assumption
        rw [hs.out] at ht
        have hf : fits n 2 = false := by simpa using ht
        have hw2 : 3 ≤ width n := by rcases width_cases n with h | h | h | h | h | h | h | h <;> first | omega | (exfalso; have e := h.2.2; first | (rw [fits_le (by omega) e] at hf; cases hf)) | (exfalso; rw [fits_le (by omega) h.2] at hf; cases hf)
        exact ⟨⟨3, by omega, hw2, rfl⟩, by simp [intOf]⟩
      · have ht : (wrap64 (n * 281474976710656) / 281474976710656 != n) = false := by assumption
        rw [hs.out] at ht
        have hf : fits n 2 = true := by simpa using ht
        have hw2 : width n = 2 := by
          rcases Nat.lt_or_ge 2 (width n) with a | a
          · rw [width_least (by omega) a] at hf; cases hf
          · omega
        go_returns
        exact ⟨by rw [hw2]; rfl, rfl⟩
    · have hs := Lib.hid (sh3 n hn)
      go_wp2
      · have ht : (wrap64 (n * 1099511627776) / 1099511627776 != n) = true := by assumption
        rw [hs.out] at ht
        have hf : fits n 3 = false := by simpa using ht
        have hw2 : 4 ≤ width n := by rcases width_cases n with h | h | h | h | h | h | h | h <;> first | omega | (exfalso; have e := h.2.2; first | (rw [fits_le (by omega) e] at hf; cases hf)) | (exfalso; rw [fits_le (by omega) h.2] at hf; cases hf)
        exact ⟨⟨4, by omega, hw2, rfl⟩, by simp [intOf]⟩
      · have ht : (wrap64 (n * 1099511627776) / 1099511627776 != n) = false := by assumption
        rw [hs.out] at ht
        have hf : fits n 3 = true := by simpa using ht
        have hw2 : width n = 3 := by
          rcases Nat.lt_or_ge 3 (width n) with a | a
          · rw [width_least (by omega) a] at hf; cases hf
          · omega
        go_returns
        exact ⟨by rw [hw2]; rfl, rfl⟩
    · have hs := Lib.hid (sh4 n hn)
      go_wp2
      · have ht : (wrap64 (n * 4294967296) / 4294967296 != n) = true := by assumption
        rw [hs.out] at ht
        have hf : fits n 4 = false := by simpa using ht
        have hw2 : 5 ≤ width n := by rcases width_cases n with h | h | h | h | h | h | h | h <;> first | omega | (exfalso; have e := h.2.2; first | (rw [fits_le (by omega) e] at hf; cases hf)) | (exfalso; rw [fits_le (by omega) h.2] at hf; cases hf)
        exact ⟨⟨5, by omega, hw2, rfl⟩, by simp [intOf]⟩
      · have ht : (wrap64 (n * 4294967296) / 4294967296 != n) = false := by assumption
        rw [hs.out] at ht
        have hf : fits n 4 = true := by simpa using ht
        have hw2 : width n = 4 := by
          rcases Nat.lt_or_ge 4 (width n) with a | a
          · rw [width_least (by omega) a] at hf; cases hf
          · omega
        go_returns
        exact ⟨by rw [hw2]; rfl, rfl⟩
    · have hs := Lib.hid (sh5 n hn)
      go_wp2
      · have ht : (wrap64 (n * 16777216) / 16777216 != n) = true := by assumption
        rw [hs.out] at ht
        have hf : fits n 5 = false := by simpa using ht
        have hw2 : 6 ≤ width n := by rcases width_cases n with h | h | h | h | h | h | h | h <;> first | omega | (exfalso; have e := h.2.2; first | (rw [fits_le (by omega) e] at hf; cases hf)) | (exfalso; rw [fits_le (by omega) h.2] at hf; cases hf)
        exact ⟨⟨6, by omega, hw2, rfl⟩, by simp [intOf]⟩
      · have ht : (wrap64 (n * 16777216) / 16777216 != n) = false := by assumption
        rw [hs.out] at ht
        have hf : fits n 5 = true := by simpa using ht
        have hw2 : width n = 5 := by
          rcases Nat.lt_or_ge 5 (width n) with a | a
          · rw [width_least (by omega) a] at hf; cases hf
          · omega
        go_returns
        exact ⟨by rw [hw2]; rfl, rfl⟩
    · have hs := Lib.hid (sh6 n hn)
      go_wp2
      · have ht : (wrap64 (n * 65536) / 65536 != n) = true := by assumption
        rw [hs.out] at ht
        have hf : fits n 6 = false := by simpa using ht
        have hw2 : 7 ≤ width n := by rcases width_cases n with h | h | h | h | h | h | h | h <;> first | omega | (exfalso; have e := h.2.2; first | (rw [fits_le (by omega) e] at hf; cases hf)) | (exfalso; rw [fits_le (by omega) h.2] at hf; cases hf)
        exact ⟨⟨7, by omega, hw2, rfl⟩, by simp [intOf]⟩
      · have ht : (wrap64 (n * 65536) / 65536 != n) = false := by assumption
        rw [hs.out] at ht
        have hf : fits n 6 = true := by simpa using ht
        have hw2 : width n = 6 := by
          rcases Nat.lt_or_ge 6 (width n) with a | a
          · rw [width_least (by omega) a] at hf; cases hf
          · omega
        go_returns
        exact ⟨by rw [hw2]; rfl, rfl⟩
    · have hs := Lib.hid (sh7 n hn)
      go_wp2
      · have ht : (wrap64 (n * 256) / 256 != n) = true := by assumption
        rw [hs.out] at ht
        have hf : fits n 7 = false := by simpa using ht
        have hw2 : 8 ≤ width n := by rcases width_cases n with h | h | h | h | h | h | h | h <;> first | omega | (exfalso; have e := h.2.2; first | (rw [fits_le (by omega) e] at hf; cases hf)) | (exfalso; rw [fits_le (by omega) h.2] at hf; cases hf)
        exact ⟨⟨8, by omega, hw2, rfl⟩, by simp [intOf]⟩
      · have ht : (wrap64 (n * 256) / 256 != n) = false := by assumption
        rw [hs.out] at ht
        have hf : fits n 7 = true := by simpa using ht
        have hw2 : width n = 7 := by
          rcases Nat.lt_or_ge 7 (width n) with a | a
          · rw [width_least (by omega) a] at hf; cases hf
          · omega
        go_returns
        exact ⟨by rw [hw2]; rfl, rfl⟩
    · have hw2 : width n = 8 := by omega
      clear h1 h2
      go_wp2
      go_returns
      exact ⟨rfl, rfl⟩
def s64 (m : Int) : Int := wrap64 m
theorem numbers_any (kind cpu id mask n : Int) (w : World) :
    Calls Try.prog 56 #[.agg #[.int .i64 kind, .int .i64 cpu, .int .i64 id, .int .u64 mask, .int .i64 n]] w fun e w' =>
      e = .returned (.agg #[.int .i64 cpu, .int .i64 id, .int .i64 (s64 mask), .int .i64 n]) ∧ Below w.heap.size w w' := by
  unfold s64
  go_enter Try.func56, Try.ntmps56
  go_wp2
  refine bodyPost_ret (v := .agg #[.int .i64 cpu, .int .i64 id, .int .i64 (wrap64 mask), .int .i64 n]) (by simp [results, Try.results56, go_sem]) rfl ⟨rfl, ?_⟩
  go_grown
def u64 (m : Int) : Int := IntKind.u64.wrap m
theorem event_any (kind a b c d : Int) (hk : 0 ≤ kind ∧ kind ≤ 255) (w : World) :
    Calls Try.prog 61 #[.int .u8 kind, .agg #[.int .i64 a, .int .i64 b, .int .i64 c, .int .i64 d]] w fun e w' =>
      e = .returned (.agg #[.int .i64 kind, .int .i64 a, .int .i64 b, .int .u64 (u64 c), .int .i64 d]) ∧ Below w.heap.size w w' := by
  unfold u64
  obtain ⟨h1, h2⟩ := hk
  go_enter Try.func61, Try.ntmps61
  go_wp2
  refine bodyPost_ret (v := .agg #[.int .i64 kind, .int .i64 a, .int .i64 b, .int .u64 (IntKind.u64.wrap c), .int .i64 d]) (by simp [results, Try.results61, go_sem]) rfl ⟨rfl, ?_⟩
  go_grown
end Go.Proofs.Ytpefmgmhclbcbaa.WireC
