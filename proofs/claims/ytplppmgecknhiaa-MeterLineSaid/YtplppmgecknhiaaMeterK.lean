/- The walk of MeterRates. -/
import Derived.Test.YtplppmgecknhiaaMeterJ
namespace Go.Proofs.Ytplppmgecknhiaa.MeterK
open Go.RowKit Go.Proofs.Ytplppmgecknhiaa.MeterA Go.Proofs.Ytplppmgecknhiaa.MeterB Go.Proofs.Ytplppmgecknhiaa.MeterC Go.Proofs.Ytplppmgecknhiaa.MeterD Go.Proofs.Ytplppmgecknhiaa.MeterE Go.Proofs.Ytplppmgecknhiaa.MeterH Go.Proofs.Ytplppmgecknhiaa.MeterI Go.Proofs.Ytplppmgecknhiaa.MeterJ
set_option linter.unusedVariables false
set_option linter.unusedSimpArgs false
theorem read_int (a : Int) (h0 : a ≠ 0) (h1 : a.natAbs < 18446744073709551616) : ∃ m p, m ≠ 0 ∧ Ieee.double.read (floatOfInt .f64 a) = .number (decide (a < 0)) m p := by
  obtain ⟨r, r1, r2, e⟩ := nearest_rung (decide (a < 0)) a.natAbs (by omega) h1
  have ee : floatOfInt .f64 a = Ieee.double.nearest (decide (a < 0)) a.natAbs 0 := rfl
  rw [ee, e]
  have et : top = 9223372036854775808 := rfl
  have ei : inf = 9218868437227405312 := rfl
  by_cases hn : a < 0
  · have hd : decide (a < 0) = true := decide_eq_true hn
    rw [hd, if_pos rfl]
    have q1 : (top + r) / top % 2 = 1 := by rw [et]; rw [ei] at r2; omega
    have q2 : (top + r) % top = r := by rw [et]; rw [ei] at r2; omega
    have := read_number (top + r) (by rw [q2]; exact r2)
    rw [q1, q2] at this
    refine ⟨_, _, ?_, this⟩
    unfold mg
    split <;> (have : 0 < B := by decide) <;> omega
  · have hd : decide (a < 0) = false := decide_eq_false hn
    rw [hd, if_neg (by decide)]
    have q1 : r / top % 2 = 0 := by rw [et]; rw [ei] at r2; omega
    have q2 : r % top = r := by rw [et]; rw [ei] at r2; omega
    have := read_number r (by rw [q2]; exact r2)
    rw [q1, q2] at this
    refine ⟨_, _, ?_, this⟩
    unfold mg
    split <;> (have : 0 < B := by decide) <;> omega
theorem read_zero : Ieee.double.read (floatOfInt .f64 0) = .number false 0 (-1074) := by decide
theorem quo_some (a b : Int) (h : b ≠ 0) (h2 : b.natAbs < 18446744073709551616) (h1 : a.natAbs < 18446744073709551616) : ∃ r, floatBits .quo .f64 (floatOfInt .f64 a) (floatOfInt .f64 b) = some r := by
  obtain ⟨m, p, hm, e⟩ := read_int b h h2
  have hx : ∃ s n q, Ieee.double.read (floatOfInt .f64 a) = .number s n q := by
    by_cases h0 : a = 0
    · subst h0; exact ⟨_, _, _, read_zero⟩
    · obtain ⟨n, q, _, e2⟩ := read_int a h0 h1
      exact ⟨_, _, _, e2⟩
  obtain ⟨s, n, q, e2⟩ := hx
  have : floatBits .quo .f64 (floatOfInt .f64 a) (floatOfInt .f64 b) = Ieee.double.div (floatOfInt .f64 a) (floatOfInt .f64 b) := rfl
  rw [this, Ieee.Format.div, e, e2]
  simp only [Ieee.Datum.quotient, if_neg hm, Option.map_some]
  exact ⟨_, rfl⟩
theorem quo_zero (a : Int) (h : a ≠ 0) (h1 : a.natAbs < 18446744073709551616) : floatBits .quo .f64 (floatOfInt .f64 a) (floatOfInt .f64 0) = some (if a < 0 then 18442240474082181120 else 9218868437227405312) := by
  obtain ⟨m, p, hm, e⟩ := read_int a h h1
  have : floatBits .quo .f64 (floatOfInt .f64 a) (floatOfInt .f64 0) = Ieee.double.div (floatOfInt .f64 a) (floatOfInt .f64 0) := rfl
  rw [this, Ieee.Format.div, e, read_zero]
  simp only [Ieee.Datum.quotient, if_neg hm, if_true, Option.map_some]
  by_cases hn : a < 0
  · rw [if_pos hn, decide_eq_true hn]; rfl
  · rw [if_neg hn, decide_eq_false hn]; rfl
end Go.Proofs.Ytplppmgecknhiaa.MeterK
