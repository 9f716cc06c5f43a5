/- Plain law: the quotient of two whole numbers as floats. -/
import Derived.Test.YtplppmgecknhiaaMeterI
namespace Go.Proofs.Ytplppmgecknhiaa.MeterJ
open Ieee Go.Proofs.Ytplppmgecknhiaa.MeterA
set_option linter.unusedVariables false
set_option linter.unusedSimpArgs false
theorem cut_in (neg : Bool) (n drop : Nat) : n / 2 ^ (min drop (n.log2 + 2)) ≤ Toward.even.cut neg n drop ∧ Toward.even.cut neg n drop ≤ n / 2 ^ (min drop (n.log2 + 2)) + 1 := by
  unfold Toward.cut
  simp only [Nat.shiftLeft_eq, Nat.one_mul]
  constructor
  · exact Nat.le_add_right _ _
  · apply Nat.add_le_add_left
    exact Bool.toNat_le _
theorem nearest_rung (neg : Bool) (mag : Nat) (h0 : 0 < mag) (h64 : mag < 18446744073709551616) : ∃ r, B ≤ r ∧ r < inf ∧ double.nearest neg mag 0 = (if neg then top + r else r) := by
  have l1 : 2 ^ mag.log2 ≤ mag := Nat.log2_self_le (by omega)
  have l2 : mag < 2 ^ (mag.log2 + 1) := Nat.lt_log2_self
  have l3 : mag.log2 ≤ 63 := by
    have := (Nat.log2_lt (by omega : mag ≠ 0)).2 (show mag < 2 ^ 64 by omega)
    omega
  have e1 : double.signWeight = top := by decide
  have e2 : double.binade = B := by decide
  have e3 : double.infRung = inf := by decide
  have e4 : double.leastPlace = -1074 := by decide
  have e5 : double.fractionBits = 52 := by decide
  unfold Format.nearest
  rw [if_neg (by omega)]
  simp only [e1, e2, e3, e4, e5, Format.word]
  have hlast : max ((0 : Int) + (mag.log2 : Int) - ((52 : Nat) : Int)) (-1074) = (mag.log2 : Int) - 52 := by omega
  rw [hlast]
  generalize hk : Toward.even.cut neg (mag <<< (0 - ((mag.log2 : Int) - 52)).toNat) ((mag.log2 : Int) - 52 - 0).toNat = kept
  have hkept : B ≤ kept ∧ kept ≤ 2 * B := by
    rw [← hk]
    by_cases h : mag.log2 ≤ 52
    · have d0 : ((mag.log2 : Int) - 52 - 0).toNat = 0 := by omega
      have d1 : (0 - ((mag.log2 : Int) - 52)).toNat = 52 - mag.log2 := by omega
      rw [d0, d1]
      have c := cut_in neg (mag <<< (52 - mag.log2)) 0
      rw [Nat.zero_min, Nat.pow_zero, Nat.div_one, Nat.shiftLeft_eq] at c
      have p1 : 2 ^ mag.log2 * 2 ^ (52 - mag.log2) = 2 ^ 52 := by rw [← Nat.pow_add]; congr 1; omega
      have p2 : 2 ^ (mag.log2 + 1) * 2 ^ (52 - mag.log2) = 2 ^ 53 := by rw [← Nat.pow_add]; congr 1; omega
      have m1 : 2 ^ mag.log2 * 2 ^ (52 - mag.log2) ≤ mag * 2 ^ (52 - mag.log2) := Nat.mul_le_mul_right _ l1
      have m2 : mag * 2 ^ (52 - mag.log2) < 2 ^ (mag.log2 + 1) * 2 ^ (52 - mag.log2) := Nat.mul_lt_mul_of_pos_right l2 (Nat.pow_pos (by omega))
      rw [p1] at m1
      rw [p2] at m2
      rw [Nat.shiftLeft_eq]
      unfold B
      omega
    · have d0 : ((mag.log2 : Int) - 52 - 0).toNat = mag.log2 - 52 := by omega
      have d1 : (0 - ((mag.log2 : Int) - 52)).toNat = 0 := by omega
      rw [d0, d1, Nat.shiftLeft_zero]
      have c := cut_in neg mag (mag.log2 - 52)
      rw [Nat.min_eq_left (by omega)] at c
      have q1 : 2 ^ 52 ≤ mag / 2 ^ (mag.log2 - 52) := by
        rw [Nat.le_div_iff_mul_le (Nat.pow_pos (by omega)), ← Nat.pow_add, show 52 + (mag.log2 - 52) = mag.log2 from by omega]
        exact l1
      have q2 : mag / 2 ^ (mag.log2 - 52) < 2 ^ 53 := by
        rw [Nat.div_lt_iff_lt_mul (Nat.pow_pos (by omega)), ← Nat.pow_add, show 53 + (mag.log2 - 52) = mag.log2 + 1 from by omega]
        exact l2
      unfold B
      omega
  have hp : ((mag.log2 : Int) - 52 - -1074).toNat = mag.log2 + 1022 := by omega
  rw [hp]
  refine ⟨(mag.log2 + 1022) * B + kept, ?_, ?_, ?_⟩
  · omega
  · unfold inf
    unfold B at *
    omega
  · rw [Nat.min_eq_left (by unfold inf; unfold B at *; omega)]
end Go.Proofs.Ytplppmgecknhiaa.MeterJ
