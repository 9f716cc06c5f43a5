/- The walk of NumRises: for all numbers the law returns true. Condition: they are of 64 bits. -/
import Derived.Test.YtplppmgecknhiaaWalkNumAdds
namespace Go.Proofs.Ytplppmgecknhiaa.WalkNumRises
open Go.RowKit Go.Proofs.Ytplppmgecknhiaa.NumD Go.Proofs.Ytplppmgecknhiaa.NumE Go.Proofs.Ytplppmgecknhiaa.WalkNumAdds
set_option linter.unusedVariables false
theorem percent_bounds (p q : Int) : 0 ≤ percentF p q ∧ percentF p q ≤ 100 := by
  unfold percentF
  split
  · omega
  · rename_i h
    split
    · omega
    · rename_i h2
      obtain ⟨p, rfl⟩ := Int.eq_ofNat_of_zero_le (show 0 ≤ p by omega)
      obtain ⟨q, rfl⟩ := Int.eq_ofNat_of_zero_le (show 0 ≤ q by omega)
      simp only [Int.toNat_natCast]
      have hlt : p * 100 / q < 100 := by
        rw [Nat.div_lt_iff_lt_mul (by omega)]
        omega
      generalize p * 100 / q = z at *
      omega
theorem percent_mono (a b q : Int) (h : a ≤ b) : percentF a q ≤ percentF b q := by
  have ha := percent_bounds a q
  have hb := percent_bounds b q
  by_cases h1 : a < 1 ∨ q < 1
  · have e : percentF a q = 0 := by unfold percentF; rw [if_pos h1]
    omega
  · by_cases h2 : q ≤ b
    · have e : percentF b q = 100 := by unfold percentF; rw [if_neg (by omega), if_pos h2]
      omega
    · have e1 : percentF a q = ((a.toNat * 100 / q.toNat : Nat) : Int) := by unfold percentF; rw [if_neg h1, if_neg (by omega)]
      have e2 : percentF b q = ((b.toNat * 100 / q.toNat : Nat) : Int) := by unfold percentF; rw [if_neg (by omega), if_neg h2]
      rw [e1, e2]
      have : a.toNat * 100 / q.toNat ≤ b.toNat * 100 / q.toNat := Nat.div_le_div_right (by omega)
      omega
set_option maxRecDepth 100000 in
set_option maxHeartbeats 1000000 in
theorem rises (W : World) (a : Int) (w1 : (Lit.int .i64 a).wf = true) (b : Int) (w2 : (Lit.int .i64 b).wf = true) (q : Int) (w3 : (Lit.int .i64 q).wf = true) : Calls Try.prog 4 #[.int .i64 a, .int .i64 b, .int .i64 q] W fun e W' => e = .returned (.bool true) ∧ Below W.heap.size W W' := by
  have ha := Lib.hid (in64 w1)
  have hb := Lib.hid (in64 w2)
  have hq := Lib.hid (in64 w3)
  have hm := Lib.hid (percent_mono a b q)
  have b1 := percent_bounds a q
  clear w1 w2 w3
  go_enter Try.func4, Try.ntmps4
  go_wp2_with fail
  refine (percent_any a q ha.out hq.out _).mono ?_
  rintro e w1 ⟨rfl, n1, hn⟩
  rw [hn]
  clear hn
  go_wp2_with fail
  refine (percent_any b q hb.out hq.out _).mono ?_
  rintro e w1 ⟨rfl, n2, hn⟩
  rw [hn]
  clear hn
  have hcase : b < a ∨ (a ≤ b ∧ percentF a q ≤ percentF b q) := by
    by_cases h : b < a
    · exact .inl h
    · exact .inr ⟨by omega, hm.out (by omega)⟩
  generalize percentF a q = x at *
  generalize percentF b q = y at *
  obtain ⟨b1, b2⟩ := b1
  rcases hcase with h | ⟨h, h2⟩
  all_goals
    go_wp2_with (go_at_call 17; refine (known_ok _).mono ?_; rintro e w' ⟨rfl, n3, hn⟩; rw [hn]; clear hn)
    go_returns
    exact ⟨rfl, Go.Proofs.Ytplppmgecknhiaa.WalkNumAdds.below_drewN W _⟩
end Go.Proofs.Ytplppmgecknhiaa.WalkNumRises
