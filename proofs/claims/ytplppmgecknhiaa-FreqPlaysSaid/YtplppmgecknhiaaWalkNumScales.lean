/- The walk of NumScales: for all numbers the law returns true. Condition: they are of 64 bits. -/
import Derived.Test.YtplppmgecknhiaaWalkNumAdds
namespace Go.Proofs.Ytplppmgecknhiaa.WalkNumScales
open Go.RowKit Go.Proofs.Ytplppmgecknhiaa.NumD Go.Proofs.Ytplppmgecknhiaa.NumE Go.Proofs.Ytplppmgecknhiaa.WalkNumAdds
set_option linter.unusedVariables false
theorem parts (d p : Nat) : d * p / 100 = d / 100 * p + d % 100 * p / 100 := by
  have h := Nat.div_add_mod d 100
  have e : d * p = d % 100 * p + d / 100 * p * 100 := by
    have : (100 * (d / 100) + d % 100) * p = d * p := by rw [h]
    rw [Nat.add_mul, Nat.mul_assoc, Nat.mul_comm 100] at this
    omega
  rw [e, Nat.add_mul_div_right _ _ (by omega)]
  omega
set_option maxHeartbeats 1000000 in
theorem rscale_in (low high : Int) (d p : Nat) (hl : In64 low) (hh : In64 high) (hd : high - low = d) (h1 : 1 ≤ p) (h2 : p < 100) (w : World) : Calls Try.prog 16 #[.int .i64 low, .int .i64 high, .int .i64 p] w fun e w' => e = .returned (.int .i64 (low + ((d * p / 100 : Nat) : Int))) ∧ w = w' := by
  obtain ⟨l1, l2⟩ := hl
  obtain ⟨g1, g2⟩ := hh
  have hdb : d < 18446744073709551616 := by omega
  have hb : ¬ (high < low) := by omega
  have hc : ¬ ((p : Int) < 1) := by omega
  have hq : ¬ (100 ≤ (p : Int)) := by omega
  have hzd : d * p / 100 ≤ d := by
    have hdp : d * p ≤ d * 99 := Nat.mul_le_mul_left _ (by omega)
    have : d * p / 100 < d + 1 := by
      rw [Nat.div_lt_iff_lt_mul (by omega)]
      omega
    omega
  have e1 : IntKind.u64.wrap (IntKind.u64.wrap high - IntKind.u64.wrap low) = (d : Int) := by
    simp only [wrap_u]
    omega
  have hy : d % 100 * p ≤ 99 * 99 := Nat.mul_le_mul (by omega) (by omega)
  have e2 : (d : Int) / 100 = ((d / 100 : Nat) : Int) := by omega
  have e3 : (d : Int) % 100 = ((d % 100 : Nat) : Int) := by omega
  have e4 : ((d / 100 : Nat) : Int) * (p : Int) = ((d / 100 * p : Nat) : Int) := by rw [Int.natCast_mul]
  have e5 : ((d % 100 : Nat) : Int) * (p : Int) = ((d % 100 * p : Nat) : Int) := by rw [Int.natCast_mul]
  have hp := parts d p
  rw [hp] at hzd ⊢
  have hx : d / 100 * p ≤ d := by omega
  have hx2 : d / 100 * p + d % 100 * p / 100 ≤ d := hzd
  generalize d / 100 = u at *
  generalize d % 100 = v at *
  generalize u * p = x at *
  generalize v * p = y at *
  have e6 : IntKind.u64.wrap (x : Int) = (x : Int) := by rw [wrap_u]; omega
  have e7 : wrap64 (IntKind.u64.wrap (IntKind.u64.wrap (IntKind.u64.wrap low + (x : Int)) + (y : Int) / 100)) = low + ((x + y / 100 : Nat) : Int) := by
    simp only [wrap_u, wrap64]
    omega
  have E7 := Lib.hid e7
  clear hp hzd hd e7
  go_enter Try.func16, Try.ntmps16
  go_wp2
  go_returns
  refine ⟨?_, rfl⟩
  exact congrArg (fun z => Ending.returned (.int .i64 z)) E7.out
theorem rscale_any (low high p : Int) (hl : In64 low) (hh : In64 high) (w : World) : Calls Try.prog 16 #[.int .i64 low, .int .i64 high, .int .i64 p] w fun e w' => e = .returned (.int .i64 (scaleF low high p)) ∧ w = w' := by
  have hcase : high < low ∨ (low ≤ high ∧ p < 1) ∨ (low ≤ high ∧ 1 ≤ p ∧ 100 ≤ p) ∨ (low ≤ high ∧ 1 ≤ p ∧ p < 100) := by omega
  rcases hcase with a | ⟨a, b⟩ | ⟨a, b, c⟩ | ⟨a, b, c⟩
  · have e : scaleF low high p = low := by unfold scaleF; rw [if_pos (by omega)]
    rw [e]
    clear e hl hh
    go_enter Try.func16, Try.ntmps16
    go_wp2
    go_returns
    exact ⟨rfl, rfl⟩
  · have e : scaleF low high p = low := by unfold scaleF; rw [if_pos (by omega)]
    rw [e]
    clear e hl hh
    go_enter Try.func16, Try.ntmps16
    go_wp2
    go_returns
    exact ⟨rfl, rfl⟩
  · have e : scaleF low high p = high := by unfold scaleF; rw [if_neg (by omega), if_pos c]
    rw [e]
    clear e hl hh
    go_enter Try.func16, Try.ntmps16
    go_wp2
    go_returns
    exact ⟨rfl, rfl⟩
  · have e : scaleF low high p = low + (((high - low).toNat * p.toNat / 100 : Nat) : Int) := by unfold scaleF; rw [if_neg (by omega), if_neg (by omega)]
    rw [e]
    obtain ⟨p, rfl⟩ := Int.eq_ofNat_of_zero_le (show 0 ≤ p by omega)
    exact rscale_in low high (high - low).toNat p hl hh (by omega) (by omega) (by omega) w
theorem scale_low (low high p : Int) (h : high < low) : scaleF low high p = low := by unfold scaleF; rw [if_pos (.inl h)]
theorem scale_bounds (low high p : Int) (h : low ≤ high) : low ≤ scaleF low high p ∧ scaleF low high p ≤ high := by
  unfold scaleF
  split
  · omega
  · split
    · omega
    · have h1 : (high - low).toNat * p.toNat / 100 ≤ (high - low).toNat := by
        have hdp : (high - low).toNat * p.toNat ≤ (high - low).toNat * 99 := Nat.mul_le_mul_left _ (by omega)
        have : (high - low).toNat * p.toNat / 100 < (high - low).toNat + 1 := by
          rw [Nat.div_lt_iff_lt_mul (by omega)]
          omega
        omega
      generalize (high - low).toNat * p.toNat / 100 = z at *
      omega
theorem scale_mono (low high p q : Int) (h : low ≤ high) (hpq : p ≤ q) : scaleF low high p ≤ scaleF low high q := by
  have hp := scale_bounds low high p h
  have hq := scale_bounds low high q h
  by_cases h1 : p < 1
  · have e : scaleF low high p = low := by unfold scaleF; rw [if_pos (.inr h1)]
    omega
  · by_cases h2 : 100 ≤ q
    · have e : scaleF low high q = high := by unfold scaleF; rw [if_neg (by omega), if_pos h2]
      omega
    · have e1 : scaleF low high p = low + (((high - low).toNat * p.toNat / 100 : Nat) : Int) := by unfold scaleF; rw [if_neg (by omega), if_neg (by omega)]
      have e2 : scaleF low high q = low + (((high - low).toNat * q.toNat / 100 : Nat) : Int) := by unfold scaleF; rw [if_neg (by omega), if_neg (by omega)]
      have : (high - low).toNat * p.toNat / 100 ≤ (high - low).toNat * q.toNat / 100 := Nat.div_le_div_right (Nat.mul_le_mul_left _ (by omega))
      omega
set_option maxRecDepth 100000 in
set_option maxHeartbeats 1000000 in
theorem walk (W : World) (low : Int) (w1 : (Lit.int .i64 low).wf = true) (high : Int) (w2 : (Lit.int .i64 high).wf = true) (p : Int) (w3 : (Lit.int .i64 p).wf = true) (q : Int) (w4 : (Lit.int .i64 q).wf = true) :
    Calls Try.prog 3 #[.int .i64 low, .int .i64 high, .int .i64 p, .int .i64 q] W fun e W' => e = .returned (.bool true) ∧ Below W.heap.size W W' := by
  have hl := Lib.hid (in64 w1)
  have hh := Lib.hid (in64 w2)
  have hp := Lib.hid (in64 w3)
  have hq := Lib.hid (in64 w4)
  have hm := Lib.hid (scale_mono low high p q)
  have hb1 := Lib.hid (scale_bounds low high p)
  have hlo := Lib.hid (scale_low low high p)
  clear w1 w2 w3 w4
  go_enter Try.func3, Try.ntmps3
  go_wp2_with fail
  refine (scale_any low high p hl.out hh.out hp.out _).mono ?_
  rintro e w1 ⟨rfl, n1, hn⟩
  rw [hn]
  clear hn
  go_wp2_with fail
  refine (scale_any low high q hl.out hh.out hq.out _).mono ?_
  rintro e w1 ⟨rfl, n2, hn⟩
  rw [hn]
  clear hn
  go_wp2_with fail
  refine (rscale_any low high p hl.out hh.out _).mono ?_
  rintro e w1 ⟨rfl, rfl⟩
  go_wp2_with fail
  refine (rscale_any low high q hl.out hh.out _).mono ?_
  rintro e w1 ⟨rfl, rfl⟩
  have hcase : (high < low ∧ Hid (scaleF low high p = low)) ∨ (low ≤ high ∧ low ≤ scaleF low high p ∧ scaleF low high p ≤ high ∧ q < p) ∨ (low ≤ high ∧ low ≤ scaleF low high p ∧ scaleF low high p ≤ high ∧ p ≤ q ∧ scaleF low high p ≤ scaleF low high q) := by
    by_cases h : high < low
    · exact .inl ⟨h, hlo.out h⟩
    · have := hb1.out (by omega)
      by_cases h2 : q < p
      · exact .inr (.inl ⟨by omega, this.1, this.2, h2⟩)
      · exact .inr (.inr ⟨by omega, this.1, this.2, by omega, hm.out (by omega) (by omega)⟩)
  generalize scaleF low high p = x at *
  generalize scaleF low high q = y at *
  rcases hcase with ⟨h, hx⟩ | ⟨h, h3, h4, h5⟩ | ⟨h, h3, h4, h5, h6⟩
  · have b1 : (x == low) = true := beq_iff_eq.2 hx.out
    go_wp2_with (go_at_call 17; refine (known_ok _).mono ?_; rintro e w' ⟨rfl, n3, hn⟩; rw [hn]; clear hn)
    go_returns
    exact ⟨rfl, Go.Proofs.Ytplppmgecknhiaa.WalkNumAdds.below_drewN W _⟩
  · go_wp2_with (go_at_call 17; refine (known_ok _).mono ?_; rintro e w' ⟨rfl, n3, hn⟩; rw [hn]; clear hn)
    go_returns
    exact ⟨rfl, Go.Proofs.Ytplppmgecknhiaa.WalkNumAdds.below_drewN W _⟩
  · go_wp2_with (go_at_call 17; refine (known_ok _).mono ?_; rintro e w' ⟨rfl, n3, hn⟩; rw [hn]; clear hn)
    go_returns
    exact ⟨rfl, Go.Proofs.Ytplppmgecknhiaa.WalkNumAdds.below_drewN W _⟩
end Go.Proofs.Ytplppmgecknhiaa.WalkNumScales
