/- The walk of MeterRates: for all two whole numbers the law returns true. No condition. -/
import Derived.Test.YtplppmgecknhiaaMeterK
import Derived.Laws.FloatBits
namespace Go.Proofs.Ytplppmgecknhiaa.MeterL
open Go.RowKit Go.Proofs.Ytplppmgecknhiaa.MeterA Go.Proofs.Ytplppmgecknhiaa.MeterB Go.Proofs.Ytplppmgecknhiaa.MeterC Go.Proofs.Ytplppmgecknhiaa.MeterD Go.Proofs.Ytplppmgecknhiaa.MeterE Go.Proofs.Ytplppmgecknhiaa.MeterH Go.Proofs.Ytplppmgecknhiaa.MeterI Go.Proofs.Ytplppmgecknhiaa.MeterK
set_option linter.unusedVariables false
set_option linter.unusedSimpArgs false
theorem in64 {a : Int} (h : (Lit.int .i64 a).wf = true) : -9223372036854775808 ≤ a ∧ a ≤ 9223372036854775807 := by
  simp only [Lit.wf, Bool.and_eq_true, decide_eq_true_eq] at h
  exact h
theorem quo_lt (x y r : Nat) (h : floatBits .quo .f64 x y = some r) : r < 18446744073709551616 := by
  have e : Ieee.double.div x y = some r := h
  exact Ieee.double.div_lt e
theorem rate_r (a b : Int) (r : Nat) (hb : b ≠ 0) (hr : floatBits .quo .f64 (floatOfInt .f64 a) (floatOfInt .f64 b) = some r) (w : World) :
    Calls Try.prog 34 #[.int .i64 a, .int .i64 b] w fun e w' => e = .returned (.float .f64 r) ∧ w = w' := by
  have x2 := fun w => run_float_arith (P := Try.prog) (w := w) .quo 42 .f64 _ _ _ hr
  have hb0 : (b == 0) = false := by simpa using hb
  clear hb hr
  go_enter Try.func34, Try.ntmps34
  go_wp2
  go_returns
  exact ⟨rfl, rfl⟩
theorem rate_z (a : Int) (r : Nat) (ha : a ≠ 0) (hr : floatBits .quo .f64 (floatOfInt .f64 a) (floatOfInt .f64 0) = some r) (w : World) :
    Calls Try.prog 34 #[.int .i64 a, .int .i64 0] w fun e w' => e = .returned (.float .f64 r) ∧ w = w' := by
  have x2 := fun w => run_float_arith (P := Try.prog) (w := w) .quo 42 .f64 _ _ _ hr
  have hb0 : (a == 0) = false := by simpa using ha
  clear ha hr
  go_enter Try.func34, Try.ntmps34
  go_wp2
  go_returns
  exact ⟨rfl, rfl⟩
theorem rrate_r (a b : Int) (r : Nat) (hb : b ≠ 0) (hr : floatBits .quo .f64 (floatOfInt .f64 a) (floatOfInt .f64 b) = some r) (w : World) :
    Calls Try.prog 53 #[.int .i64 a, .int .i64 b] w fun e w' => e = .returned (.float .f64 r) ∧ w = w' := by
  have x2 := fun w => run_float_arith (P := Try.prog) (w := w) .quo 42 .f64 _ _ _ hr
  have hb0 : (b == 0) = false := by simpa using hb
  clear hb hr
  go_enter Try.func53, Try.ntmps53
  go_wp2
  go_returns
  exact ⟨rfl, rfl⟩
theorem rrate_z (a : Int) (w : World) :
    Calls Try.prog 53 #[.int .i64 a, .int .i64 0] w fun e w' => e = .returned (.float .f64 (if a = 0 then 9221120237041090561 else if a < 0 then 18442240474082181120 else 9218868437227405312)) ∧ w = w' := by
  rcases (by omega : 0 < a ∨ (a ≤ 0 ∧ a < 0) ∨ a = 0) with h | ⟨h, h2⟩ | rfl
  · rw [if_neg (by omega), if_neg (by omega)]
    go_enter Try.func53, Try.ntmps53
    go_wp2_with (go_at_call 73; refine (inf_pos _).mono ?_; rintro e w' ⟨rfl, rfl⟩)
    go_returns
    exact ⟨rfl, rfl⟩
  · rw [if_neg (by omega), if_pos h2]
    go_enter Try.func53, Try.ntmps53
    go_wp2_with (go_at_call 73; refine (inf_neg _).mono ?_; rintro e w' ⟨rfl, rfl⟩)
    go_returns
    exact ⟨rfl, rfl⟩
  · rw [if_pos rfl]
    go_enter Try.func53, Try.ntmps53
    go_wp2_with (go_at_call 67; refine (nan_any _).mono ?_; rintro e w' ⟨rfl, rfl⟩)
    go_returns
    exact ⟨rfl, rfl⟩
theorem rates_of (a b : Int) (r s : Nat) (hr : r < 18446744073709551616) (hs : s = r) (c1 : ∀ w, Calls Try.prog 34 #[.int .i64 a, .int .i64 b] w fun e w' => e = .returned (.float .f64 r) ∧ w = w') (c2 : ∀ w, Calls Try.prog 53 #[.int .i64 a, .int .i64 b] w fun e w' => e = .returned (.float .f64 s) ∧ w = w') (W : World) :
    Calls Try.prog 12 #[.int .i64 a, .int .i64 b] W fun e W' => e = .returned (.bool true) ∧ Below W.heap.size W W' := by
  subst hs
  have C1 := Lib.hid c1
  have C2 := Lib.hid c2
  have R := Lib.hid hr
  clear c1 c2 hr
  go_enter Try.func12, Try.ntmps12
  go_wp2_with (first
    | (go_at_call 34; refine (C1.out _).mono ?_; rintro e w' ⟨rfl, rfl⟩)
    | (go_at_call 53; refine (C2.out _).mono ?_; rintro e w' ⟨rfl, rfl⟩)
    | (go_at_call 52; refine (rsame_self _ R.out _).mono ?_; rintro e w' ⟨rfl, rfl⟩)
    | (go_at_call 43; refine (known_ok _).mono ?_; rintro e w' ⟨rfl, hb⟩))
  go_returns
  exact ⟨rfl, hb⟩
theorem rates_walk (W : World) (a : Int) (w1 : (Lit.int .i64 a).wf = true) (b : Int) (w2 : (Lit.int .i64 b).wf = true) : Calls Try.prog 12 #[.int .i64 a, .int .i64 b] W fun e W' => e = .returned (.bool true) ∧ Below W.heap.size W W' := by
  have i1 := in64 w1
  have i2 := in64 w2
  clear w1 w2
  by_cases hb : b = 0
  · subst hb
    by_cases ha : a = 0
    · subst ha
      have c2 := fun w => rrate_z 0 w
      simp only [if_true] at c2
      exact rates_of 0 0 _ _ (by omega) rfl (fun w => rate_00 w) c2 W
    · have c2 := fun w => rrate_z a w
      simp only [if_neg ha] at c2
      exact rates_of a 0 _ _ (by split <;> omega) rfl (fun w => rate_z a _ ha (quo_zero a ha (by omega)) w) c2 W
  · obtain ⟨r, hr⟩ := quo_some a b hb (by omega) (by omega)
    exact rates_of a b r r (quo_lt _ _ _ hr) rfl (fun w => rate_r a b r hb hr w) (fun w => rrate_r a b r hb hr w) W
end Go.Proofs.Ytplppmgecknhiaa.MeterL
