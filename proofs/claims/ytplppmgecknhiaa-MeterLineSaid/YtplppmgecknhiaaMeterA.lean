/- Plain laws of floats of 64 bits: how two stand is how their rungs with signs stand. -/
import Derived.Test.YtplppmgecknhiaaProg
import Derived.WalkKit
import Derived.Handy
namespace Go.Proofs.Ytplppmgecknhiaa.MeterA
open Ieee
set_option linter.unusedVariables false
set_option linter.unusedSimpArgs false
def B : Nat := 4503599627370496
def top : Nat := 9223372036854775808
def inf : Nat := 9218868437227405312
def mg (r : Nat) : Nat := if r < B then r else B + r % B
def ex (r : Nat) : Nat := r / B - 1
def val (r : Nat) : Nat := mg r * 2 ^ ex r
theorem val_succ (r : Nat) : val r < val (r + 1) := by
  unfold val mg ex B
  by_cases h : r + 1 < 4503599627370496
  · rw [if_pos (by omega), if_pos h, show r / 4503599627370496 - 1 = 0 from by omega, show (r + 1) / 4503599627370496 - 1 = 0 from by omega]
    omega
  · by_cases h0 : r + 1 = 4503599627370496
    · obtain rfl : r = 4503599627370495 := by omega
      decide
    · rw [if_neg (by omega), if_neg (by omega)]
      by_cases h1 : (r + 1) % 4503599627370496 = 0
      · have e1 : r % 4503599627370496 = 4503599627370495 := by omega
        have e2 : (r + 1) / 4503599627370496 - 1 = r / 4503599627370496 - 1 + 1 := by omega
        rw [h1, e1, e2, Nat.pow_succ]
        have : 0 < 2 ^ (r / 4503599627370496 - 1) := Nat.pow_pos (by omega)
        generalize 2 ^ (r / 4503599627370496 - 1) = p at *
        omega
      · have e1 : (r + 1) % 4503599627370496 = r % 4503599627370496 + 1 := by omega
        have e2 : (r + 1) / 4503599627370496 - 1 = r / 4503599627370496 - 1 := by omega
        rw [e1, e2]
        exact Nat.mul_lt_mul_of_pos_right (by omega) (Nat.pow_pos (by omega))
theorem val_lt {r s : Nat} (h : r < s) : val r < val s := by
  obtain ⟨d, rfl⟩ : ∃ d, s = r + 1 + d := ⟨s - (r + 1), by omega⟩
  induction d with
  | zero => exact val_succ r
  | succ d ih => exact Nat.lt_trans (ih (by omega)) (val_succ _)
theorem val_lt_iff (r s : Nat) : val r < val s ↔ r < s := by
  constructor
  · intro h
    rcases Nat.lt_trichotomy r s with k | rfl | k
    · exact k
    · omega
    · have := val_lt k; omega
  · exact val_lt
theorem val_eq_iff (r s : Nat) : val r = val s ↔ r = s := by
  constructor
  · intro h
    rcases Nat.lt_trichotomy r s with k | rfl | k
    · have := val_lt k; omega
    · rfl
    · have := val_lt k; omega
  · rintro rfl; rfl
def sg (s : Bool) (n : Nat) : Int := if s then -(n : Int) else n
theorem cmp_of {a b c d : Int} (h1 : a < b ↔ c < d) (h2 : a = b ↔ c = d) : compare a b = compare c d := by
  simp only [compare, compareOfLessAndEq, h1, h2]
theorem val_zero : val 0 = 0 := by decide
theorem sg_val (s t : Bool) (r q : Nat) : compare (sg s (val r)) (sg t (val q)) = compare (sg s r) (sg t q) := by
  have a1 := val_lt_iff r q
  have a2 := val_lt_iff q r
  have a3 := val_eq_iff r q
  have b1 := val_lt_iff 0 r
  have b2 := val_lt_iff 0 q
  rw [val_zero] at b1 b2
  apply cmp_of <;> cases s <;> cases t <;> simp [sg] <;> omega
def nan (b : Nat) : Bool := decide (inf < b % top)
def sv (b : Nat) : Int := sg (b / top % 2 == 1) (b % top)
theorem read_number (b : Nat) (h : b % top < inf) : double.read b = .number (b / top % 2 == 1) (mg (b % top)) (-1074 + (ex (b % top) : Nat)) := by
  have e1 : double.signWeight = top := by decide
  have e2 : double.binade = B := by decide
  have e3 : double.infRung = inf := by decide
  have e4 : double.leastPlace = -1074 := by decide
  unfold Format.read
  rw [e1, e2, e3, e4]
  unfold mg ex
  by_cases k : b % top < B
  · simp only [k, if_true]
    rw [show b % top / B = 0 from Nat.div_eq_of_lt k]
    rfl
  · simp only [k, if_false, h, if_true]
theorem read_inf (b : Nat) (h : b % top = inf) : double.read b = .infinity (b / top % 2 == 1) := by
  have e1 : double.signWeight = top := by decide
  have e2 : double.binade = B := by decide
  have e3 : double.infRung = inf := by decide
  unfold Format.read
  rw [e1, e2, e3]
  simp only [h]
  rw [if_neg (by decide), if_neg (by omega), if_pos trivial]
theorem read_nan (b : Nat) (h : inf < b % top) : ∃ s f, double.read b = .nan s f := by
  have e1 : double.signWeight = top := by decide
  have e2 : double.binade = B := by decide
  have e3 : double.infRung = inf := by decide
  unfold Format.read
  rw [e1, e2, e3]
  have k : ¬ b % top < B := by unfold inf at h; unfold B; omega
  simp only [k, if_false]
  rw [if_neg (by omega), if_neg (by omega)]
  exact ⟨_, _, rfl⟩
theorem signed_shift (s : Bool) (m up : Nat) : Ieee.signed s m up = sg s (m * 2 ^ up) := by
  unfold Ieee.signed sg
  rw [Nat.shiftLeft_eq]
theorem sg_scale (s t : Bool) (m n p : Nat) (hp : 0 < p) : compare (sg s (m * p)) (sg t (n * p)) = compare (sg s m) (sg t n) := by
  have l : ∀ x y : Nat, x * p < y * p ↔ x < y := fun x y => Nat.mul_lt_mul_right hp
  have q : ∀ x y : Nat, x * p = y * p ↔ x = y := fun x y => Nat.mul_left_inj (by omega)
  have a1 := l m n
  have a2 := l n m
  have a3 := q m n
  have b1 := l 0 m
  have b2 := l 0 n
  rw [Nat.zero_mul] at b1 b2
  generalize m * p = mp at *
  generalize n * p = np at *
  apply cmp_of <;> cases s <;> cases t <;> simp [sg] <;> omega
theorem order_numbers (s t : Bool) (r q : Nat) : Datum.order (.number s (mg r) (-1074 + (ex r : Nat))) (.number t (mg q) (-1074 + (ex q : Nat))) = some (compare (sg s r) (sg t q)) := by
  rw [← sg_val]
  simp only [Datum.order, signed_shift]
  congr 1
  have hm : min (-1074 + (ex r : Int)) (-1074 + (ex q : Int)) = -1074 + ((min (ex r) (ex q) : Nat) : Int) := by omega
  rw [hm]
  have e1 : (-1074 + (ex r : Int) - (-1074 + ((min (ex r) (ex q) : Nat) : Int))).toNat = ex r - min (ex r) (ex q) := by omega
  have e2 : (-1074 + (ex q : Int) - (-1074 + ((min (ex r) (ex q) : Nat) : Int))).toNat = ex q - min (ex r) (ex q) := by omega
  rw [e1, e2, ← sg_scale s t _ _ (2 ^ min (ex r) (ex q)) (Nat.pow_pos (by omega)), Nat.mul_assoc, Nat.mul_assoc, ← Nat.pow_add, ← Nat.pow_add, Nat.sub_add_cancel (Nat.min_le_left _ _), Nat.sub_add_cancel (Nat.min_le_right _ _)]
  rfl
theorem order_nan_l (x y : Nat) (h : nan x = true) : double.order x y = none := by
  obtain ⟨s, f, e⟩ := read_nan x (by simpa [nan] using h)
  simp only [Format.order, e]
  cases double.read y <;> rfl
theorem order_nan_r (x y : Nat) (h : nan y = true) : double.order x y = none := by
  obtain ⟨s, f, e⟩ := read_nan y (by simpa [nan] using h)
  simp only [Format.order, e]
  cases double.read x <;> rfl
theorem cl (a b : Int) (h : a < b) : compare a b = .lt := by simp [compare, compareOfLessAndEq, h]
theorem cg (a b : Int) (h : b < a) : compare a b = .gt := by
  simp only [compare, compareOfLessAndEq]
  rw [if_neg (by omega), if_neg (by omega)]
theorem ce (a : Int) : compare a a = .eq := by simp [compare, compareOfLessAndEq]
theorem order_sv (x y : Nat) (hx : nan x = false) (hy : nan y = false) : double.order x y = some (compare (sv x) (sv y)) := by
  simp only [nan, decide_eq_false_iff_not, Nat.not_lt] at hx hy
  simp only [Format.order, sv]
  have pi : 0 < inf := by decide
  rcases Nat.lt_or_eq_of_le hx with kx | kx
  · rcases Nat.lt_or_eq_of_le hy with ky | ky
    · rw [read_number x kx, read_number y ky, order_numbers]
    · rw [read_number x kx, read_inf y ky, ky]
      generalize (x / top % 2 == 1) = s
      generalize (y / top % 2 == 1) = t
      generalize x % top = r at *
      cases s <;> cases t <;> simp only [Datum.order, sg, if_true, if_false, Bool.false_eq_true] <;> first | (rw [cl _ _ (by omega)]; rfl) | (rw [cg _ _ (by omega)]; rfl) | rw [cl _ _ (by omega)] | rw [cg _ _ (by omega)] | (rw [ce]; rfl) | rw [ce]
  · rcases Nat.lt_or_eq_of_le hy with ky | ky
    · rw [read_number y ky, read_inf x kx, kx]
      generalize (x / top % 2 == 1) = s
      generalize (y / top % 2 == 1) = t
      generalize y % top = r at *
      cases s <;> cases t <;> simp only [Datum.order, sg, if_true, if_false, Bool.false_eq_true] <;> first | (rw [cl _ _ (by omega)]; rfl) | (rw [cg _ _ (by omega)]; rfl) | rw [cl _ _ (by omega)] | rw [cg _ _ (by omega)] | (rw [ce]; rfl) | rw [ce]
    · rw [read_inf y ky, read_inf x kx, kx, ky]
      generalize (x / top % 2 == 1) = s
      generalize (y / top % 2 == 1) = t
      cases s <;> cases t <;> simp only [Datum.order, sg, if_true, if_false, Bool.false_eq_true] <;> first | (rw [cl _ _ (by omega)]; rfl) | (rw [cg _ _ (by omega)]; rfl) | rw [cl _ _ (by omega)] | rw [cg _ _ (by omega)] | (rw [ce]; rfl) | rw [ce]
end Go.Proofs.Ytplppmgecknhiaa.MeterA
