/- math/bits.Div64 at every number of two words whose upper one is below the divisor, the divisor below 2^63: the quotient. -/
import Derived.Test.YtplppmgecknhiaaNumB
import Derived.Laws.Bits64b
namespace Go.Proofs.Ytplppmgecknhiaa.NumC
open Go.RowKit Go.Proofs.Ytplppmgecknhiaa.NumA Go.Proofs.Ytplppmgecknhiaa.NumB
set_option linter.unusedVariables false

theorem bitLen_zero : Lib.bitLen 0 = 0 := by decide
theorem bitLen_pow : ∀ (n x : Nat), n ≤ 64 → x < 2 ^ n → x ≠ 0 → 2 ^ Lib.bitLen x ≤ 2 * x ∧ x < 2 ^ Lib.bitLen x := by
  intro n
  induction n with
  | zero => intro x _ h h0; simp at h; exact absurd h h0
  | succ n ih =>
    intro x hn h h0
    have h64 : x < 2 ^ 64 := Nat.lt_of_lt_of_le h (Nat.pow_le_pow_right (by omega) hn)
    have e := Lib.bitLen_half x h0 h64
    by_cases h1 : x / 2 = 0
    · rw [e, h1, bitLen_zero]
      simp
      omega
    · have h2 : x / 2 < 2 ^ n := by rw [Nat.pow_succ] at h; omega
      obtain ⟨a, b⟩ := ih (x / 2) (by omega) h2 h1
      rw [e, Nat.pow_add]
      generalize 2 ^ Lib.bitLen (x / 2) = z at *
      simp only [Nat.pow_one]
      omega
theorem wrap_nat {n : Nat} (h : n < 18446744073709551616) : IntKind.u64.wrap (n : Int) = (n : Int) := by rw [IntKind.wrap_u64]; omega

/-- The divisor, shifted so that its highest bit is the word's. -/
theorem norm_ok (y : Nat) (hy : 2 ≤ y) (h2 : y < 9223372036854775808) : ∃ s : Nat, (64 - (Lib.bitLen y : Int) = s) ∧ 1 ≤ s ∧ s ≤ 63 ∧ 9223372036854775808 ≤ y * 2 ^ s ∧ y * 2 ^ s < 18446744073709551616 := by
  obtain ⟨a, b⟩ := bitLen_pow 63 y (by omega) h2 (by omega)
  have hl : Lib.bitLen y ≤ 63 := Lib.bitLen_le y 63 (by omega) h2
  have hl1 : 1 ≤ Lib.bitLen y := by
    rcases Nat.eq_zero_or_pos (Lib.bitLen y) with h | h
    · rw [h] at b; simp at b; omega
    · exact h
  refine ⟨64 - Lib.bitLen y, by omega, by omega, by omega, ?_, ?_⟩
  · have h : 2 ^ Lib.bitLen y * 2 ^ (64 - Lib.bitLen y) ≤ 2 * y * 2 ^ (64 - Lib.bitLen y) := Nat.mul_le_mul_right _ a
    rw [← Nat.pow_add, show Lib.bitLen y + (64 - Lib.bitLen y) = 64 from by omega, Nat.mul_assoc] at h
    generalize y * 2 ^ (64 - Lib.bitLen y) = z at *
    have e : (2 : Nat) ^ 64 = 18446744073709551616 := by decide
    omega
  · have h : y * 2 ^ (64 - Lib.bitLen y) < 2 ^ Lib.bitLen y * 2 ^ (64 - Lib.bitLen y) := Nat.mul_lt_mul_of_pos_right b (Nat.two_pow_pos _)
    rw [← Nat.pow_add, show Lib.bitLen y + (64 - Lib.bitLen y) = 64 from by omega] at h
    have e : (2 : Nat) ^ 64 = 18446744073709551616 := by decide
    omega

/-- The number, shifted as the divisor is: its two words. -/
theorem shift_ok (hi lo s : Nat) (hs1 : 1 ≤ s) (hs2 : s ≤ 63) (hl : lo < 18446744073709551616) :
    lo / 2 ^ (64 - s) < 2 ^ s ∧ (hi * 2 ^ s + lo / 2 ^ (64 - s)) * 18446744073709551616 + lo * 2 ^ s % 18446744073709551616 = (hi * 18446744073709551616 + lo) * 2 ^ s := by
  have e : (2 : Nat) ^ (64 - s) * 2 ^ s = 18446744073709551616 := by
    rw [← Nat.pow_add, show 64 - s + s = 64 from by omega]
  refine ⟨?_, ?_⟩
  · rw [Nat.div_lt_iff_lt_mul (Nat.two_pow_pos _), Nat.mul_comm, e]
    exact hl
  · have hd := Nat.div_add_mod lo (2 ^ (64 - s))
    have hm := Nat.mod_lt lo (Nat.two_pow_pos (64 - s))
    generalize lo / 2 ^ (64 - s) = a at *
    generalize lo % 2 ^ (64 - s) = b at *
    have hb : b * 2 ^ s < 18446744073709551616 := by
      rw [← e]
      exact Nat.mul_lt_mul_of_pos_right hm (Nat.two_pow_pos _)
    have h1 : lo * 2 ^ s = a * 18446744073709551616 + b * 2 ^ s := by
      rw [← hd, Nat.add_mul, Nat.mul_comm (2 ^ (64 - s)) a, Nat.mul_assoc, e]
    have h2 : lo * 2 ^ s % 18446744073709551616 = b * 2 ^ s := by
      rw [h1, Nat.add_comm, Nat.add_mul_mod_self_right, Nat.mod_eq_of_lt hb]
    rw [h2, Nat.add_mul, Nat.add_mul, h1, Nat.mul_assoc, Nat.mul_comm (2 ^ s), ← Nat.mul_assoc]
    generalize hi * 18446744073709551616 * 2 ^ s = x
    generalize b * 2 ^ s = y
    generalize a * 18446744073709551616 = z
    exact Nat.add_assoc _ _ _

theorem maskB (a : Nat) (ha : a < 18446744073709551616) : bits .and .u64 (a : Int) 4294967295 = ((a % 4294967296 : Nat) : Int) := by
  have h := bits_and_u64_nat a 4294967295 ha (by omega)
  have e : a &&& 4294967295 = a % 4294967296 := Nat.and_two_pow_sub_one_eq_mod a 32
  rw [e] at h
  exact h
theorem orB (hi s z : Nat) (hz : z < 2 ^ s) (hh : hi * 2 ^ s < 18446744073709551616) (hz2 : z < 18446744073709551616) : bits .or .u64 ((hi * 2 ^ s : Nat) : Int) (z : Int) = ((hi * 2 ^ s + z : Nat) : Int) := by
  rw [bits_or_u64_nat _ _ hh hz2]
  congr 1
  rw [Nat.mul_comm]
  exact (Nat.two_pow_add_eq_or_of_lt hz hi).symm

set_option maxRecDepth 100000 in
theorem div_high (hi lo y : Nat) (h0 : 0 < hi) (h1 : hi < y) (h2 : y < 9223372036854775808) (hl : lo < 18446744073709551616) (w : World) :
    Calls Try.prog 61 #[.int .u64 hi, .int .u64 lo, .int .u64 y] w (DivPost ((hi * 18446744073709551616 + lo) / y) w) := by
  obtain ⟨s, hs, hs1, hs2, hv1, hv2⟩ := norm_ok y (by omega) h2
  obtain ⟨hz, hU⟩ := shift_ok hi lo s hs1 hs2 hl
  have hP : 0 < 2 ^ s := Nat.two_pow_pos s
  have hyv : (hi + 1) * 2 ^ s ≤ y * 2 ^ s := Nat.mul_le_mul_right _ h1
  rw [Nat.add_mul, Nat.one_mul] at hyv
  have hZ : (hi * 18446744073709551616 + lo) / y = ((hi * 18446744073709551616 + lo) * 2 ^ s) / (y * 2 ^ s) := (Nat.mul_div_mul_right _ _ hP).symm
  rw [hZ, ← hU]
  have e1 : IntKind.u64.wrap ((y : Int) * 2 ^ s) = ((y * 2 ^ s : Nat) : Int) := by
    have := wrap_nat hv2
    rw [Int.natCast_mul, Int.natCast_pow] at this
    rw [Int.natCast_mul, Int.natCast_pow]
    exact this
  have hhs : hi * 2 ^ s < 18446744073709551616 := by omega
  have hzb : lo / 2 ^ (64 - s) < 18446744073709551616 := Nat.lt_of_le_of_lt (Nat.div_le_self _ _) hl
  have e4 : bits .or .u64 (IntKind.u64.wrap ((hi : Int) * 2 ^ s)) ((lo : Int) / 2 ^ (64 - s)) = ((hi * 2 ^ s + lo / 2 ^ (64 - s) : Nat) : Int) := by
    have a := wrap_nat hhs
    rw [Int.natCast_mul, Int.natCast_pow] at a
    have b : ((lo : Int) / 2 ^ (64 - s)) = ((lo / 2 ^ (64 - s) : Nat) : Int) := by rw [Int.natCast_ediv, Int.natCast_pow]; rfl
    have c := orB hi s (lo / 2 ^ (64 - s)) hz hhs hzb
    rw [Int.natCast_mul, Int.natCast_pow] at c
    rw [b, ← c]
    congr 1
  have e5 : IntKind.u64.wrap ((lo : Int) * 2 ^ s) = ((lo * 2 ^ s % 18446744073709551616 : Nat) : Int) := by
    have e : ((lo : Int) * 2 ^ s) = ((lo * 2 ^ s : Nat) : Int) := by rw [Int.natCast_mul, Int.natCast_pow]; rfl
    rw [e, IntKind.wrap_u64]
    generalize lo * 2 ^ s = x
    omega
  have ht : lo * 2 ^ s % 18446744073709551616 < 18446744073709551616 := Nat.mod_lt _ (by omega)
  have hu : hi * 2 ^ s + lo / 2 ^ (64 - s) < y * 2 ^ s := by omega
  generalize hi * 2 ^ s + lo / 2 ^ (64 - s) = u at *
  generalize lo * 2 ^ s % 18446744073709551616 = t at *
  generalize y * 2 ^ s = v at *
  clear hZ hU hz hyv hP hhs hzb
  have hvs : v / 4294967296 * 4294967296 + v % 4294967296 = v := Nat.div_add_mod' v 4294967296
  have hts : t / 4294967296 * 4294967296 + t % 4294967296 = t := Nat.div_add_mod' t 4294967296
  have hvn1 : 2147483648 ≤ v / 4294967296 := by omega
  have hvn2 : v / 4294967296 < 4294967296 := by omega
  have hvn0 : v % 4294967296 < 4294967296 := Nat.mod_lt _ (by omega)
  have hd1 : t / 4294967296 < 4294967296 := by omega
  have hd0 : t % 4294967296 < 4294967296 := Nat.mod_lt _ (by omega)
  have e2 : (v : Int) / 4294967296 = ((v / 4294967296 : Nat) : Int) := by omega
  have e3 := maskB v hv2
  have e6 : (t : Int) / 4294967296 = ((t / 4294967296 : Nat) : Int) := by omega
  have e7 := maskB t ht
  have hZt : (u * 18446744073709551616 + t) = (u * 4294967296 + t / 4294967296) * 4294967296 + t % 4294967296 := by
    rw [Nat.add_mul, Nat.add_assoc, hts, Nat.mul_assoc]
  rw [hZt]
  generalize t / 4294967296 = d1 at *
  generalize t % 4294967296 = d0 at *
  generalize v / 4294967296 = vn1 at *
  generalize v % 4294967296 = vn0 at *
  have hub : u < 18446744073709551616 := by omega
  have hu' : u < vn1 * 4294967296 + vn0 := by omega
  have hvp : 0 < vn1 * 4294967296 + vn0 := by omega
  obtain ⟨Q1, hq⟩ : ∃ Q1, (u * 4294967296 + d1) / v = Q1 := ⟨_, rfl⟩
  obtain ⟨u2, hu2⟩ : ∃ u2, u * 4294967296 + d1 - Q1 * v = u2 := ⟨_, rfl⟩
  obtain ⟨s1, s2⟩ := two_steps (B := 4294967296) (v := v) (u := u) (a := d1) (b := d0) (q1 := Q1) (r1 := u2) (by omega) hq.symm hu2.symm
  rw [← s2]
  have hle : Q1 * v ≤ u * 4294967296 + d1 := by rw [← hq]; exact Nat.div_mul_le_self _ _
  have hQ1b : Q1 < 4294967296 := by
    rw [← hq, Nat.div_lt_iff_lt_mul (by omega)]
    have : (u + 1) * 4294967296 ≤ v * 4294967296 := Nat.mul_le_mul_right _ hu
    rw [Nat.mul_comm 4294967296]
    omega
  have hQ1 : Q1 = (u * 4294967296 + d1) / (vn1 * 4294967296 + vn0) := by rw [hvs, hq]
  have g1 := step_guess (d := d1) (by omega) hu' hd1
  rw [← hQ1] at g1
  have g2 := step_start (B := 4294967296) hvn0 (by omega) hu'
  have g3 := Nat.div_add_mod' u vn1
  have g4 := Nat.mod_lt u (show 0 < vn1 by omega)
  have e8 : IntKind.u64.wrap ((u : Int) / (vn1 : Int)) = ((u / vn1 : Nat) : Int) := by
    rw [← Int.natCast_ediv]
    exact wrap_nat (Nat.lt_of_le_of_lt (Nat.div_le_self _ _) hub)
  have e9 : IntKind.u64.wrap ((u : Int) - IntKind.u64.wrap (((u / vn1 : Nat) : Int) * (vn1 : Int))) = ((u % vn1 : Nat) : Int) := by
    rw [← Int.natCast_mul]
    generalize u / vn1 * vn1 = x at *
    rw [wrap_nat (by omega), IntKind.wrap_u64]
    generalize u % vn1 = z at *
    omega
  have e10 : IntKind.u64.wrap (IntKind.u64.wrap (IntKind.u64.wrap ((u : Int) * 4294967296) + (d1 : Int)) - IntKind.u64.wrap ((Q1 : Int) * (v : Int))) = (u2 : Int) := by
    rw [← Int.natCast_mul]
    generalize Q1 * v = x at *
    simp only [IntKind.wrap_u64]
    omega
  have hu2' : u2 < vn1 * 4294967296 + vn0 := by omega
  have hu2b : u2 < 18446744073709551616 := by omega
  have k1 := step_guess (d := d0) (by omega) hu2' hd0
  have k2 := step_start (B := 4294967296) hvn0 (by omega) hu2'
  have k3 := Nat.div_add_mod' u2 vn1
  have k4 := Nat.mod_lt u2 (show 0 < vn1 by omega)
  have e11 : IntKind.u64.wrap ((u2 : Int) / (vn1 : Int)) = ((u2 / vn1 : Nat) : Int) := by
    rw [← Int.natCast_ediv]
    exact wrap_nat (Nat.lt_of_le_of_lt (Nat.div_le_self _ _) hu2b)
  have e12 : IntKind.u64.wrap ((u2 : Int) - IntKind.u64.wrap (((u2 / vn1 : Nat) : Int) * (vn1 : Int))) = ((u2 % vn1 : Nat) : Int) := by
    rw [← Int.natCast_mul]
    generalize u2 / vn1 * vn1 = x at *
    rw [wrap_nat (by omega), IntKind.wrap_u64]
    generalize u2 % vn1 = z at *
    omega
  obtain ⟨Q2, hq2⟩ : ∃ Q2, (u2 * 4294967296 + d0) / v = Q2 := ⟨_, rfl⟩
  have hQ2 : Q2 = (u2 * 4294967296 + d0) / (vn1 * 4294967296 + vn0) := by rw [hvs, hq2]
  have hQ2b : Q2 < 4294967296 := by
    rw [← hq2, Nat.div_lt_iff_lt_mul (by omega)]
    have : (u2 + 1) * 4294967296 ≤ v * 4294967296 := Nat.mul_le_mul_right _ s1
    rw [Nat.mul_comm 4294967296]
    omega
  rw [← hQ2] at k1
  rw [hq2]
  have e13 : IntKind.u64.wrap ((Q1 : Int) * 4294967296 + (Q2 : Int)) = ((Q1 * 4294967296 + Q2 : Nat) : Int) := by
    rw [IntKind.wrap_u64]
    omega
  exact div_core hi lo y s v vn1 vn0 u t d1 d0 (u / vn1) (u % vn1) Q1 u2 (u2 / vn1) (u2 % vn1) Q2 h0 h1 h2 hl (Lib.hid hs) hs1 hs2 e1 hv2 e2 hvn1 hvn2 e3 hvn0 e4 (Lib.hid hu') hub e5 ht e6 hd1 e7 hd0 e8 e9
    (Lib.hid g3.symm) (Lib.hid g1) g2 (by omega) (Lib.hid hQ1) hQ1b e10 (Lib.hid hu2') e11 e12 (Lib.hid k3.symm) (Lib.hid k1) k2 (by omega) (Lib.hid hQ2) _ e13 w
end Go.Proofs.Ytplppmgecknhiaa.NumC
