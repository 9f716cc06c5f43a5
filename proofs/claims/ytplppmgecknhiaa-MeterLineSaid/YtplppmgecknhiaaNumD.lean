/- Contracts of the functions of layer 2 and of the document's, but for percents and scales. -/
import Derived.Test.YtplppmgecknhiaaNumC
namespace Go.Proofs.Ytplppmgecknhiaa.NumD
open Go.RowKit Go.Proofs.Ytplppmgecknhiaa.NumB Go.Proofs.Ytplppmgecknhiaa.NumC
set_option linter.unusedVariables false
def In64 (a : Int) : Prop := -9223372036854775808 ≤ a ∧ a ≤ 9223372036854775807
def sumF (n : Int) : Int × Int := if -9223372036854775808 ≤ n ∧ n ≤ 9223372036854775807 then (n, 0) else (0, 16)

theorem add_over {a b : Int} (ha : In64 a) (hb : In64 b) (h : (!(decide (wrap64 (a + b) < a) == decide (b < 0))) = true) : sumF (a + b) = (0, 16) := by
  unfold In64 at ha hb
  unfold sumF
  rw [if_neg]
  unfold wrap64 at h
  by_cases c : b < 0 <;> simp [c] at h <;> omega
theorem add_fit {a b : Int} (ha : In64 a) (hb : In64 b) (h : (!(decide (wrap64 (a + b) < a) == decide (b < 0))) = false) : sumF (a + b) = (wrap64 (a + b), 0) := by
  unfold In64 at ha hb
  unfold sumF
  unfold wrap64 at h
  have hr : -9223372036854775808 ≤ a + b ∧ a + b ≤ 9223372036854775807 := by
    by_cases c : b < 0 <;> simp [c] at h <;> omega
  rw [if_pos hr]
  unfold wrap64
  rw [show (a + b + 9223372036854775808) % 18446744073709551616 - 9223372036854775808 = a + b from by omega]
theorem sub_over {a b : Int} (ha : In64 a) (hb : In64 b) (h : (!(decide (a < wrap64 (a - b)) == decide (b < 0))) = true) : sumF (a - b) = (0, 16) := by
  unfold In64 at ha hb
  unfold sumF
  rw [if_neg]
  unfold wrap64 at h
  by_cases c : b < 0 <;> simp [c] at h <;> omega
theorem sub_fit {a b : Int} (ha : In64 a) (hb : In64 b) (h : (!(decide (a < wrap64 (a - b)) == decide (b < 0))) = false) : sumF (a - b) = (wrap64 (a - b), 0) := by
  unfold In64 at ha hb
  unfold sumF
  unfold wrap64 at h
  have hr : -9223372036854775808 ≤ a - b ∧ a - b ≤ 9223372036854775807 := by
    by_cases c : b < 0 <;> simp [c] at h <;> omega
  rw [if_pos hr]
  unfold wrap64
  rw [show (a - b + 9223372036854775808) % 18446744073709551616 - 9223372036854775808 = a - b from by omega]

theorem add_any (a b : Int) (ha : In64 a) (hb : In64 b) (w : World) : Calls Try.prog 24 #[.int .i64 a, .int .i64 b] w fun e w' => e = .returned (.tuple #[.int .i64 (sumF (a + b)).1, .int .i64 (sumF (a + b)).2]) ∧ w = w' := by
  have H1 := Lib.hid (add_over ha hb)
  have H2 := Lib.hid (add_fit ha hb)
  obtain ⟨a1, a2⟩ := ha
  obtain ⟨b1, b2⟩ := hb
  go_enter Try.func24, Try.ntmps24
  go_wp2
  · go_returns
    rw [H1.out (by assumption)]
    exact ⟨rfl, rfl⟩
  · go_returns
    rw [H2.out (by assumption)]
    exact ⟨rfl, rfl⟩
theorem sub_any (a b : Int) (ha : In64 a) (hb : In64 b) (w : World) : Calls Try.prog 26 #[.int .i64 a, .int .i64 b] w fun e w' => e = .returned (.tuple #[.int .i64 (sumF (a - b)).1, .int .i64 (sumF (a - b)).2]) ∧ w = w' := by
  have H1 := Lib.hid (sub_over ha hb)
  have H2 := Lib.hid (sub_fit ha hb)
  obtain ⟨a1, a2⟩ := ha
  obtain ⟨b1, b2⟩ := hb
  go_enter Try.func26, Try.ntmps26
  go_wp2
  · go_returns
    rw [H1.out (by assumption)]
    exact ⟨rfl, rfl⟩
  · go_returns
    rw [H2.out (by assumption)]
    exact ⟨rfl, rfl⟩
/-- The document's sum: the tests are made ahead of it. -/
theorem radd_any (a b : Int) (ha : In64 a) (hb : In64 b) (w : World) : Calls Try.prog 25 #[.int .i64 a, .int .i64 b] w fun e w' => e = .returned (.tuple #[.int .i64 (sumF (a + b)).1, .int .i64 (sumF (a + b)).2]) ∧ w = w' := by
  obtain ⟨a1, a2⟩ := ha
  obtain ⟨b1, b2⟩ := hb
  have hcase : (0 < b ∧ 9223372036854775807 - b < a) ∨ (0 < b ∧ a ≤ 9223372036854775807 - b) ∨ b = 0 ∨ (b < 0 ∧ a < -9223372036854775808 - b) ∨ (b < 0 ∧ -9223372036854775808 - b ≤ a) := by omega
  rcases hcase with ⟨c, d⟩ | ⟨c, d⟩ | rfl | ⟨c, d⟩ | ⟨c, d⟩
  all_goals
    first
    | (have e : sumF (a + b) = (0, 16) := by (unfold sumF; rw [if_neg (by omega)]))
    | (have e : sumF (a + b) = (a + b, 0) := by (unfold sumF; rw [if_pos (by omega)]))
    | (have e : sumF (a + 0) = (a + 0, 0) := by (unfold sumF; rw [if_pos (by omega)]))
    have E := Lib.hid e
    clear e
    go_enter Try.func25, Try.ntmps25
    go_wp2
    go_returns
    rw [E.out]
    first
      | exact ⟨rfl, rfl⟩
      | (simp; done)
theorem rsub_any (a b : Int) (ha : In64 a) (hb : In64 b) (w : World) : Calls Try.prog 27 #[.int .i64 a, .int .i64 b] w fun e w' => e = .returned (.tuple #[.int .i64 (sumF (a - b)).1, .int .i64 (sumF (a - b)).2]) ∧ w = w' := by
  obtain ⟨a1, a2⟩ := ha
  obtain ⟨b1, b2⟩ := hb
  have hcase : (b < 0 ∧ 9223372036854775807 + b < a) ∨ (b < 0 ∧ a ≤ 9223372036854775807 + b) ∨ b = 0 ∨ (0 < b ∧ a < -9223372036854775808 + b) ∨ (0 < b ∧ -9223372036854775808 + b ≤ a) := by omega
  rcases hcase with ⟨c, d⟩ | ⟨c, d⟩ | rfl | ⟨c, d⟩ | ⟨c, d⟩
  all_goals
    first
    | (have e : sumF (a - b) = (0, 16) := by (unfold sumF; rw [if_neg (by omega)]))
    | (have e : sumF (a - b) = (a - b, 0) := by (unfold sumF; rw [if_pos (by omega)]))
    | (have e : sumF (a - 0) = (a - 0, 0) := by (unfold sumF; rw [if_pos (by omega)]))
    have E := Lib.hid e
    clear e
    go_enter Try.func27, Try.ntmps27
    go_wp2
    go_returns
    rw [E.out]
    first
      | exact ⟨rfl, rfl⟩
      | (simp; done)
def badLater (now delay : Int) : Prop := now < 0 ∨ 1152921504606846976 < now ∨ delay < 0 ∨ 1073741824 < delay
instance (now delay : Int) : Decidable (badLater now delay) := inferInstanceAs (Decidable (_ ∨ _ ∨ _ ∨ _))
def laterF (now delay : Int) : Int × Int := if badLater now delay then (0, 2) else if 1152921504606846976 < now + delay then (0, 16) else (now + delay, 0)
theorem later_cases (now delay : Int) : (now < 0 ∧ laterF now delay = (0, 2)) ∨ (0 ≤ now ∧ 1152921504606846976 < now ∧ laterF now delay = (0, 2)) ∨ (0 ≤ now ∧ now ≤ 1152921504606846976 ∧ delay < 0 ∧ laterF now delay = (0, 2)) ∨ (0 ≤ now ∧ now ≤ 1152921504606846976 ∧ 0 ≤ delay ∧ 1073741824 < delay ∧ laterF now delay = (0, 2)) ∨
    (0 ≤ now ∧ now ≤ 1152921504606846976 ∧ 0 ≤ delay ∧ delay ≤ 1073741824 ∧ 1152921504606846976 < now + delay ∧ laterF now delay = (0, 16)) ∨ (0 ≤ now ∧ now ≤ 1152921504606846976 ∧ 0 ≤ delay ∧ delay ≤ 1073741824 ∧ now + delay ≤ 1152921504606846976 ∧ laterF now delay = (now + delay, 0)) := by
  unfold laterF
  by_cases h1 : now < 0
  · left; exact ⟨h1, by rw [if_pos (show badLater now delay by unfold badLater; omega)]⟩
  · by_cases h2 : 1152921504606846976 < now
    · right; left; exact ⟨by omega, h2, by rw [if_pos (show badLater now delay by unfold badLater; omega)]⟩
    · by_cases h3 : delay < 0
      · right; right; left; exact ⟨by omega, by omega, h3, by rw [if_pos (show badLater now delay by unfold badLater; omega)]⟩
      · by_cases h4 : 1073741824 < delay
        · right; right; right; left; exact ⟨by omega, by omega, by omega, h4, by rw [if_pos (show badLater now delay by unfold badLater; omega)]⟩
        · by_cases h5 : 1152921504606846976 < now + delay
          · right; right; right; right; left; exact ⟨by omega, by omega, by omega, by omega, h5, by rw [if_neg (show ¬ badLater now delay by unfold badLater; omega), if_pos h5]⟩
          · right; right; right; right; right; exact ⟨by omega, by omega, by omega, by omega, by omega, by rw [if_neg (show ¬ badLater now delay by unfold badLater; omega), if_neg h5]⟩
theorem later_any (now delay : Int) (w : World) (h1 : In64 now) (h2 : In64 delay) : Calls Try.prog 28 #[.int .i64 now, .int .i64 delay] w fun e w' => e = .returned (.tuple #[.int .i64 (laterF now delay).1, .int .i64 (laterF now delay).2]) ∧ w = w' := by
  clear h1 h2
  rcases later_cases now delay with ⟨a, e⟩ | ⟨a, b, e⟩ | ⟨a, b, c, e⟩ | ⟨a, b, c, d, e⟩ | ⟨a, b, c, d, f, e⟩ | ⟨a, b, c, d, f, e⟩
  all_goals
    have E := Lib.hid e
    clear e
    first
    | (have d9 : decide (now ≤ 1152921504606846976 - delay) = true := by (rw [decide_eq_true_iff]; omega))
    | (have d9 : decide (now ≤ 1152921504606846976 - delay) = false := by (rw [decide_eq_false_iff_not]; omega))
    | skip
    first
    | (have d8 : decide (delay ≤ 1073741824) = true := by (rw [decide_eq_true_iff]; omega))
    | (have d8 : decide (delay ≤ 1073741824) = false := by (rw [decide_eq_false_iff_not]; omega))
    | skip
    go_enter Try.func28, Try.ntmps28
    go_wp2
    go_returns
    rw [E.out]
    exact ⟨rfl, rfl⟩
theorem rlater_any (now delay : Int) (w : World) (h1 : In64 now) (h2 : In64 delay) : Calls Try.prog 29 #[.int .i64 now, .int .i64 delay] w fun e w' => e = .returned (.tuple #[.int .i64 (laterF now delay).1, .int .i64 (laterF now delay).2]) ∧ w = w' := by
  clear h1 h2
  rcases later_cases now delay with ⟨a, e⟩ | ⟨a, b, e⟩ | ⟨a, b, c, e⟩ | ⟨a, b, c, d, e⟩ | ⟨a, b, c, d, f, e⟩ | ⟨a, b, c, d, f, e⟩
  all_goals
    have E := Lib.hid e
    clear e
    go_enter Try.func29, Try.ntmps29
    go_wp2
    go_returns
    rw [E.out]
    exact ⟨rfl, rfl⟩
end Go.Proofs.Ytplppmgecknhiaa.NumD
