/- Plain numbers: one step of the division of two digits by two digits, to any base. -/
namespace Go.Proofs.Ytplppmgecknhiaa.NumA
theorem mul_split (q vn1 B vn0 : Nat) : q * (vn1 * B + vn0) = q * vn1 * B + q * vn0 := by rw [Nat.mul_add, Nat.mul_assoc]
theorem step_big {B vn1 vn0 u d q r : Nat} (hu : u < vn1 * B + vn0) (hd : d < B) (he : u = q * vn1 + r) (h : B ≤ q ∨ r * B + d < q * vn0) :
    (u * B + d) / (vn1 * B + vn0) < q := by
  have hp : 0 < vn1 * B + vn0 := Nat.lt_of_le_of_lt (Nat.zero_le _) hu
  rw [Nat.div_lt_iff_lt_mul hp]
  rcases h with h | h
  · have h1 : u * B + d < (u + 1) * B := by rw [Nat.add_mul]; omega
    have h2 : (u + 1) * B ≤ (vn1 * B + vn0) * B := Nat.mul_le_mul_right B hu
    have h3 : (vn1 * B + vn0) * B ≤ (vn1 * B + vn0) * q := Nat.mul_le_mul_left _ h
    rw [Nat.mul_comm q]
    exact Nat.lt_of_lt_of_le h1 (Nat.le_trans h2 h3)
  · rw [mul_split, he, Nat.add_mul]
    omega
theorem step_fits {B vn1 vn0 u d q r : Nat} (hu : u < vn1 * B + vn0) (he : u = q * vn1 + r) (h : q * vn0 ≤ r * B + d) :
    q ≤ (u * B + d) / (vn1 * B + vn0) := by
  have hp : 0 < vn1 * B + vn0 := Nat.lt_of_le_of_lt (Nat.zero_le _) hu
  rw [Nat.le_div_iff_mul_le hp, mul_split, he, Nat.add_mul]
  omega
/-- The first guess is at most two too great. -/
theorem step_start {B vn1 vn0 u : Nat} (hv0 : vn0 < B) (hv1 : B ≤ 2 * vn1) (hu : u < vn1 * B + vn0) : u / vn1 ≤ B + 1 := by
  have h0 : 0 < vn1 := by omega
  have h : u / vn1 < B + 2 := by
    rw [Nat.div_lt_iff_lt_mul h0, Nat.add_mul, Nat.mul_comm B]
    omega
  omega
theorem step_guess {B vn1 vn0 u d : Nat} (h0 : 0 < vn1) (hu : u < vn1 * B + vn0) (hd : d < B) : (u * B + d) / (vn1 * B + vn0) ≤ u / vn1 := by
  have hp : 0 < vn1 * B + vn0 := Nat.lt_of_le_of_lt (Nat.zero_le _) hu
  have h : (u * B + d) / (vn1 * B + vn0) < u / vn1 + 1 := by
    rw [Nat.div_lt_iff_lt_mul hp]
    have h1 := Nat.lt_mul_div_succ u h0
    have h2 : (u + 1) * B ≤ vn1 * (u / vn1 + 1) * B := Nat.mul_le_mul_right B h1
    have h3 : vn1 * (u / vn1 + 1) * B = (u / vn1 + 1) * vn1 * B := by rw [Nat.mul_comm vn1]
    rw [mul_split]
    rw [Nat.add_mul] at h2
    omega
  omega
/-- Where the rest has outgrown a digit the guess is right. -/
theorem step_over {B vn1 vn0 u d q r : Nat} (hv0 : vn0 < B) (hu : u < vn1 * B + vn0) (he : u = q * vn1 + r) (hr : B ≤ r) : q < B ∧ q * vn0 ≤ r * B + d := by
  have hq : q < B := by
    rcases Nat.lt_or_ge q B with h | h
    · exact h
    · have h1 : B * vn1 ≤ q * vn1 := Nat.mul_le_mul_right _ h
      rw [Nat.mul_comm B] at h1
      omega
  refine ⟨hq, ?_⟩
  have h1 : q * vn0 ≤ B * B := Nat.mul_le_mul (by omega) (by omega)
  have h2 : B * B ≤ r * B := Nat.mul_le_mul_right _ hr
  omega
/-- Two steps make the quotient. -/
theorem two_steps {B v u a b q1 r1 : Nat} (hv : 0 < v) (h1 : q1 = (u * B + a) / v) (hr1 : r1 = (u * B + a) - q1 * v) :
    r1 < v ∧ q1 * B + (r1 * B + b) / v = ((u * B + a) * B + b) / v := by
  have e := Nat.div_add_mod (u * B + a) v
  rw [← h1, Nat.mul_comm] at e
  have hm := Nat.mod_lt (u * B + a) hv
  have h4 : u * B + a = q1 * v + r1 := by omega
  refine ⟨by omega, ?_⟩
  have e2 : (u * B + a) * B + b = (r1 * B + b) + q1 * B * v := by
    rw [h4, Nat.add_mul, Nat.mul_assoc q1 v B, Nat.mul_comm v B, ← Nat.mul_assoc]
    omega
  rw [e2, Nat.add_mul_div_right _ _ hv, Nat.add_comm]
end Go.Proofs.Ytplppmgecknhiaa.NumA
