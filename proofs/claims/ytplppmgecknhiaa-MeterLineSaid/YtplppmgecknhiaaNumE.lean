/- Contracts of num.Percent, num.Scale, num.Log and of known. -/
import Derived.Test.YtplppmgecknhiaaNumD
namespace Go.Proofs.Ytplppmgecknhiaa.NumE
open Go.RowKit Go.Proofs.Ytplppmgecknhiaa.NumB Go.Proofs.Ytplppmgecknhiaa.NumC Go.Proofs.Ytplppmgecknhiaa.NumD
set_option linter.unusedVariables false
def DivAny (Z : Nat) (w : World) (e : Ending) (w' : World) : Prop := (∃ r : Int, e = .returned (.tuple #[.int .u64 (Z : Int), .int .u64 r])) ∧ ∃ n, w' = w.drewN n
theorem drewN_zero (w : World) : w = w.drewN 0 := rfl
theorem div_any (hi lo y : Nat) (h1 : hi < y) (h2 : y < 9223372036854775808) (hl : lo < 18446744073709551616) (w : World) :
    Calls Try.prog 61 #[.int .u64 hi, .int .u64 lo, .int .u64 y] w (DivAny ((hi * 18446744073709551616 + lo) / y) w) := by
  rcases Nat.eq_zero_or_pos hi with rfl | h0
  · rw [Nat.zero_mul, Nat.zero_add]
    exact (div_low lo y (by omega) hl (by omega) w).mono fun e w' ⟨he, hw⟩ => ⟨⟨_, he⟩, hw⟩
  · exact (div_high hi lo y h0 h1 h2 hl w).mono fun e w' ⟨he, hw⟩ => ⟨he, 0, hw⟩
theorem mul_any (x y : Nat) (hx : x < 18446744073709551616) (hy : y < 18446744073709551616) (w : World) :
    Calls Try.prog 60 #[.int .u64 x, .int .u64 y] w fun e w' => e = .returned (.tuple #[.int .u64 ((x * y / 18446744073709551616 : Nat) : Int), .int .u64 ((x * y % 18446744073709551616 : Nat) : Int)]) ∧ w = w' :=
  (Try.bits_Mul64 x y hx hy w).mono fun _ _ h => ⟨h.1, h.2.symm⟩
theorem mul_100 (x : Nat) (hx : x < 18446744073709551616) (w : World) :
    Calls Try.prog 60 #[.int .u64 x, .int .u64 100] w fun e w' => e = .returned (.tuple #[.int .u64 ((x * 100 / 18446744073709551616 : Nat) : Int), .int .u64 ((x * 100 % 18446744073709551616 : Nat) : Int)]) ∧ w = w' := mul_any x 100 hx (by omega) w
theorem div_100 (hi lo : Nat) (h1 : hi < 100) (hl : lo < 18446744073709551616) (w : World) :
    Calls Try.prog 61 #[.int .u64 hi, .int .u64 lo, .int .u64 100] w (DivAny ((hi * 18446744073709551616 + lo) / 100) w) := div_any hi lo 100 h1 (by omega) hl w
/-- How many hundredths of a whole a part is. -/
def percentF (part of : Int) : Int := if part < 1 ∨ of < 1 then 0 else if of ≤ part then 100 else ((part.toNat * 100 / of.toNat : Nat) : Int)
def Pct (p : Int) (w : World) (e : Ending) (w' : World) : Prop := e = .returned (.int .i64 p) ∧ ∃ n, w' = w.drewN n

set_option maxHeartbeats 1000000 in
theorem percent_in (p q : Nat) (h1 : 1 ≤ p) (h2 : p < q) (h3 : q < 9223372036854775808) (w : World) : Calls Try.prog 18 #[.int .i64 p, .int .i64 q] w (Pct ((p * 100 / q : Nat) : Int) w) := by
  have hlt : p * 100 / q < 100 := by
    rw [Nat.div_lt_iff_lt_mul (by omega)]
    omega
  have hb : ¬ ((p : Int) < 1) := by omega
  have hc : ¬ ((q : Int) < 1) := by omega
  have hd : ¬ ((q : Int) ≤ (p : Int)) := by omega
  have hhi : p * 100 / 18446744073709551616 < q := by
    rw [Nat.div_lt_iff_lt_mul (by omega)]
    omega
  have hlo : p * 100 % 18446744073709551616 < 18446744073709551616 := Nat.mod_lt _ (by omega)
  have hZ : p * 100 / 18446744073709551616 * 18446744073709551616 + p * 100 % 18446744073709551616 = p * 100 := Nat.div_add_mod' _ _
  go_enter Try.func18, Try.ntmps18
  go_wp2_with fail
  refine (mul_100 p (by omega) _).mono ?_
  rintro e w1 ⟨rfl, rfl⟩
  generalize p * 100 / 18446744073709551616 = hi at *
  generalize p * 100 % 18446744073709551616 = lo at *
  have HZ := Lib.hid hZ
  clear hZ
  go_wp2_with fail
  refine (div_any hi lo q hhi h3 hlo _).mono ?_
  rintro e w1 ⟨⟨r, rfl⟩, n, hn⟩
  rw [hn, HZ.out]
  clear hn HZ
  generalize p * 100 / q = z at *
  go_wp2
  go_returns
  exact ⟨rfl, _, rfl⟩
theorem percent_any (p q : Int) (hp : In64 p) (hq : In64 q) (w : World) : Calls Try.prog 18 #[.int .i64 p, .int .i64 q] w (Pct (percentF p q) w) := by
  obtain ⟨p1, p2⟩ := hp
  obtain ⟨q1, q2⟩ := hq
  have hcase : p < 1 ∨ (1 ≤ p ∧ q < 1) ∨ (1 ≤ p ∧ 1 ≤ q ∧ q ≤ p) ∨ (1 ≤ p ∧ p < q) := by omega
  rcases hcase with a | ⟨a, b⟩ | ⟨a, b, c⟩ | ⟨a, b⟩
  · have e : percentF p q = 0 := by unfold percentF; rw [if_pos (by omega)]
    rw [e]
    go_enter Try.func18, Try.ntmps18
    go_wp2
    go_returns
    exact ⟨rfl, 0, rfl⟩
  · have e : percentF p q = 0 := by unfold percentF; rw [if_pos (by omega)]
    rw [e]
    go_enter Try.func18, Try.ntmps18
    go_wp2
    go_returns
    exact ⟨rfl, 0, rfl⟩
  · have e : percentF p q = 100 := by unfold percentF; rw [if_neg (by omega), if_pos c]
    rw [e]
    go_enter Try.func18, Try.ntmps18
    go_wp2
    go_returns
    exact ⟨rfl, 0, rfl⟩
  · have e : percentF p q = ((p.toNat * 100 / q.toNat : Nat) : Int) := by unfold percentF; rw [if_neg (by omega), if_neg (by omega)]
    rw [e]
    obtain ⟨p, rfl⟩ := Int.eq_ofNat_of_zero_le (show 0 ≤ p by omega)
    obtain ⟨q, rfl⟩ := Int.eq_ofNat_of_zero_le (show 0 ≤ q by omega)
    exact percent_in p q (by omega) (by omega) (by omega) w

/-- So many hundredths of the way from one number to another one. -/
def scaleF (low high p : Int) : Int := if high < low ∨ p < 1 then low else if 100 ≤ p then high else low + (((high - low).toNat * p.toNat / 100 : Nat) : Int)
theorem wrap_u (a : Int) : IntKind.u64.wrap a = a % 18446744073709551616 := IntKind.wrap_u64 a
set_option maxHeartbeats 1000000 in
theorem scale_in (low high : Int) (d p : Nat) (hl : In64 low) (hh : In64 high) (hd : high - low = d) (h1 : 1 ≤ p) (h2 : p < 100) (w : World) : Calls Try.prog 15 #[.int .i64 low, .int .i64 high, .int .i64 p] w (Pct (low + ((d * p / 100 : Nat) : Int)) w) := by
  obtain ⟨l1, l2⟩ := hl
  obtain ⟨g1, g2⟩ := hh
  have hdb : d < 18446744073709551616 := by omega
  have hb : ¬ (high < low) := by omega
  have hc : ¬ ((p : Int) < 1) := by omega
  have hq : ¬ (100 ≤ (p : Int)) := by omega
  have hdp : d * p ≤ d * 99 := Nat.mul_le_mul_left _ (by omega)
  have hhi : d * p / 18446744073709551616 < 100 := by
    rw [Nat.div_lt_iff_lt_mul (by omega)]
    omega
  have hlo : d * p % 18446744073709551616 < 18446744073709551616 := Nat.mod_lt _ (by omega)
  have hZ : d * p / 18446744073709551616 * 18446744073709551616 + d * p % 18446744073709551616 = d * p := Nat.div_add_mod' _ _
  have hzd : d * p / 100 ≤ d := by
    have : d * p / 100 < d + 1 := by
      rw [Nat.div_lt_iff_lt_mul (by omega)]
      omega
    omega
  have e1 : IntKind.u64.wrap (IntKind.u64.wrap high - IntKind.u64.wrap low) = (d : Int) := by
    simp only [wrap_u]
    omega
  have e2 : wrap64 (IntKind.u64.wrap (IntKind.u64.wrap low + ((d * p / 100 : Nat) : Int))) = low + ((d * p / 100 : Nat) : Int) := by
    generalize d * p / 100 = z at *
    simp only [wrap_u, wrap64]
    omega
  have HZ := Lib.hid hZ
  have H2 := Lib.hid e2
  clear hZ e2 hd hdp
  go_enter Try.func15, Try.ntmps15
  go_wp2_with fail
  refine (mul_any d p hdb (by omega) _).mono ?_
  rintro e w1 ⟨rfl, rfl⟩
  generalize d * p / 18446744073709551616 = hi at *
  generalize d * p % 18446744073709551616 = lo at *
  clear e1 hdb
  go_wp2_with fail
  refine (div_100 hi lo hhi hlo _).mono ?_
  rintro e w1 ⟨⟨r, rfl⟩, n, hn⟩
  rw [hn, HZ.out]
  clear hn HZ hhi hlo
  generalize d * p / 100 = z at *
  clear l1 l2 g1 g2 hzd
  go_wp2
  go_returns
  refine ⟨?_, _, rfl⟩
  rw [← H2.out]
  rfl
theorem scale_any (low high p : Int) (hl : In64 low) (hh : In64 high) (hp : In64 p) (w : World) : Calls Try.prog 15 #[.int .i64 low, .int .i64 high, .int .i64 p] w (Pct (scaleF low high p) w) := by
  have hcase : high < low ∨ (low ≤ high ∧ p < 1) ∨ (low ≤ high ∧ 1 ≤ p ∧ 100 ≤ p) ∨ (low ≤ high ∧ 1 ≤ p ∧ p < 100) := by omega
  rcases hcase with a | ⟨a, b⟩ | ⟨a, b, c⟩ | ⟨a, b, c⟩
  · have e : scaleF low high p = low := by unfold scaleF; rw [if_pos (by omega)]
    rw [e]
    clear e hl hh hp
    go_enter Try.func15, Try.ntmps15
    go_wp2
    go_returns
    exact ⟨rfl, 0, rfl⟩
  · have e : scaleF low high p = low := by unfold scaleF; rw [if_pos (by omega)]
    rw [e]
    clear e hl hh hp
    go_enter Try.func15, Try.ntmps15
    go_wp2
    go_returns
    exact ⟨rfl, 0, rfl⟩
  · have e : scaleF low high p = high := by unfold scaleF; rw [if_neg (by omega), if_pos c]
    rw [e]
    clear e hl hh hp
    go_enter Try.func15, Try.ntmps15
    go_wp2
    go_returns
    exact ⟨rfl, 0, rfl⟩
  · have e : scaleF low high p = low + (((high - low).toNat * p.toNat / 100 : Nat) : Int) := by unfold scaleF; rw [if_neg (by omega), if_neg (by omega)]
    rw [e]
    obtain ⟨p, rfl⟩ := Int.eq_ofNat_of_zero_le (show 0 ≤ p by omega)
    exact scale_in low high (high - low).toNat p hl hh (by omega) (by omega) (by omega) w

def logF (n : Int) : Int := if n < 1 then -1 else (Lib.bitLen n.toNat : Int) - 1
theorem log_any (n : Int) (hn : In64 n) (w : World) : Calls Try.prog 22 #[.int .i64 n] w fun e w' => e = .returned (.int .i64 (logF n)) ∧ w = w' := by
  obtain ⟨a, b⟩ := hn
  by_cases h : n < 1
  · have e : logF n = -1 := if_pos h
    rw [e]
    clear e
    go_enter Try.func22, Try.ntmps22
    go_wp2
    go_returns
    exact ⟨rfl, rfl⟩
  · have e : logF n = (Lib.bitLen n.toNat : Int) - 1 := if_neg h
    rw [e]
    clear e
    obtain ⟨n, rfl⟩ := Int.eq_ofNat_of_zero_le (show 0 ≤ n by omega)
    have hl : Lib.bitLen n ≤ 64 := Lib.bitLen_le n 64 (by omega) (by omega)
    go_enter Try.func22, Try.ntmps22
    go_wp2_with (go_at_call 63; refine (Try.bits_Len64 _ _ (by omega) (by omega)).mono ?_; rintro e w' ⟨rfl, rfl⟩; rw [Int.toNat_natCast])
    rw [Int.toNat_natCast]
    generalize Lib.bitLen n = z at *
    go_returns
    exact ⟨rfl, rfl⟩
theorem k1 : laterF 5 7 = (12, 0) := by rfl
theorem k2 : sumF (9223372036854775807 + 1) = (0, 16) := by rfl
theorem k3 : percentF 1 3 = 33 := by rfl
theorem k4 : scaleF 10 20 55 = 15 := by rfl
theorem k5 : logF 9 = 3 := by rfl
theorem known_ok (w : World) : Calls Try.prog 17 #[] w fun e w' => e = .returned (.bool true) ∧ ∃ n, w' = w.drewN n := by
  go_enter Try.func17, Try.ntmps17
  go_wp2_with fail
  refine (later_any 5 7 _ ⟨by omega, by omega⟩ ⟨by omega, by omega⟩).mono ?_
  rintro e w1 ⟨rfl, rfl⟩
  rw [k1]
  go_wp2_with fail
  refine (add_any 9223372036854775807 1 ⟨by omega, by omega⟩ ⟨by omega, by omega⟩ _).mono ?_
  rintro e w1 ⟨rfl, rfl⟩
  rw [k2]
  go_wp2_with fail
  refine (percent_any 1 3 ⟨by omega, by omega⟩ ⟨by omega, by omega⟩ _).mono ?_
  rintro e w1 ⟨rfl, n, hn⟩
  rw [hn, k3]
  clear hn
  go_wp2_with fail
  refine (scale_any 10 20 55 ⟨by omega, by omega⟩ ⟨by omega, by omega⟩ ⟨by omega, by omega⟩ _).mono ?_
  rintro e w1 ⟨rfl, m, hm⟩
  rw [hm, k4]
  clear hm
  go_wp2_with fail
  refine (log_any 9 ⟨by omega, by omega⟩ _).mono ?_
  rintro e w1 ⟨rfl, rfl⟩
  rw [k5]
  go_wp2
  go_returns
  exact ⟨rfl, n + m, rfl⟩
end Go.Proofs.Ytplppmgecknhiaa.NumE
