/- Contracts of Order and Same of layer 25 and of the document's. -/
import Derived.Test.YtplppmgecknhiaaMeterB
namespace Go.Proofs.Ytplppmgecknhiaa.MeterC
open Go.RowKit Go.Proofs.Ytplppmgecknhiaa.MeterA Go.Proofs.Ytplppmgecknhiaa.MeterB
set_option linter.unusedVariables false
set_option linter.unusedSimpArgs false
theorem compare_f (a b : Nat) (ha : nan a = false) (hb : nan b = false) (w : World) : Calls Try.prog 77 #[.float .f64 a, .float .f64 b] w fun e w' => e = .returned (.int .i64 (if sv a < sv b then -1 else if sv b < sv a then 1 else 0)) ∧ w = w' := by
  have hcase : sv a < sv b ∨ sv b < sv a ∨ sv a = sv b := by omega
  have qa : Calls Try.prog 86 #[.float .f64 a] w fun e w' => e = .returned (.bool false) ∧ w = w' := by have := cisnan a w; rw [ha] at this; exact this
  have qb : Calls Try.prog 86 #[.float .f64 b] w fun e w' => e = .returned (.bool false) ∧ w = w' := by have := cisnan b w; rw [hb] at this; exact this
  have QA := Lib.hid qa
  have QB := Lib.hid qb
  clear qa qb
  rcases hcase with h | h | h
  · rw [if_pos h]
    have ho := cmp_lt ha hb h
    clear ha hb h
    go_enter Try.func77, Try.ntmps77
    go_wp2_with (go_at_call 86; first | (refine QA.out.mono ?_; rintro e w' ⟨rfl, rfl⟩) | (refine QB.out.mono ?_; rintro e w' ⟨rfl, rfl⟩))
    go_returns
    exact ⟨rfl, rfl⟩
  · rw [if_neg (by omega), if_pos h]
    have ho := cmp_gt ha hb h
    clear ha hb h
    go_enter Try.func77, Try.ntmps77
    go_wp2_with (go_at_call 86; first | (refine QA.out.mono ?_; rintro e w' ⟨rfl, rfl⟩) | (refine QB.out.mono ?_; rintro e w' ⟨rfl, rfl⟩))
    go_returns
    exact ⟨rfl, rfl⟩
  · rw [if_neg (by omega), if_neg (by omega)]
    have ho := cmp_eq ha hb h
    clear ha hb h
    go_enter Try.func77, Try.ntmps77
    go_wp2_with (go_at_call 86; first | (refine QA.out.mono ?_; rintro e w' ⟨rfl, rfl⟩) | (refine QB.out.mono ?_; rintro e w' ⟨rfl, rfl⟩))
    go_returns
    exact ⟨rfl, rfl⟩
set_option maxRecDepth 100000 in
set_option maxHeartbeats 1000000 in
theorem order_any (a b : Nat) (ha : a < 18446744073709551616) (hb : b < 18446744073709551616) (w : World) : Calls Try.prog 54 #[.float .f64 a, .float .f64 b] w fun e w' => e = .returned (.int .i64 (orderF a b)) ∧ w = w' := by
  obtain ⟨R, hR⟩ : ∃ R, R = orderF a b := ⟨_, rfl⟩
  rw [← hR]
  unfold orderF at hR
  cases na : nan a with
  | true =>
    have qa : Calls Try.prog 74 #[.float .f64 a] w fun e w' => e = .returned (.bool true) ∧ w = w' := by have := isnan a w; rw [na] at this; exact this
    have ka := key_nan na
    cases nb : nan b with
    | true =>
      have qb : Calls Try.prog 74 #[.float .f64 b] w fun e w' => e = .returned (.bool true) ∧ w = w' := by have := isnan b w; rw [nb] at this; exact this
      have kb := key_nan nb
      rw [orderK_eq (by omega)] at hR
      subst hR
      have QA := Lib.hid qa
      have QB := Lib.hid qb
      clear qa qb ka kb na nb ha hb
      go_enter Try.func54, Try.ntmps54
      go_wp2_with (go_at_call 74; first | (refine QA.out.mono ?_; rintro e w' ⟨rfl, rfl⟩) | (refine QB.out.mono ?_; rintro e w' ⟨rfl, rfl⟩))
      go_returns
      exact ⟨rfl, rfl⟩
    | false =>
      have qb : Calls Try.prog 74 #[.float .f64 b] w fun e w' => e = .returned (.bool false) ∧ w = w' := by have := isnan b w; rw [nb] at this; exact this
      have kb := key_num nb hb
      rw [orderK_gt (by omega)] at hR
      subst hR
      have QA := Lib.hid qa
      have QB := Lib.hid qb
      clear qa qb ka kb na nb ha hb
      go_enter Try.func54, Try.ntmps54
      go_wp2_with (go_at_call 74; first | (refine QA.out.mono ?_; rintro e w' ⟨rfl, rfl⟩) | (refine QB.out.mono ?_; rintro e w' ⟨rfl, rfl⟩))
      go_returns
      exact ⟨rfl, rfl⟩
  | false =>
    have qa : Calls Try.prog 74 #[.float .f64 a] w fun e w' => e = .returned (.bool false) ∧ w = w' := by have := isnan a w; rw [na] at this; exact this
    have ka := key_num na ha
    cases nb : nan b with
    | true =>
      have qb : Calls Try.prog 74 #[.float .f64 b] w fun e w' => e = .returned (.bool true) ∧ w = w' := by have := isnan b w; rw [nb] at this; exact this
      have kb := key_nan nb
      rw [orderK_lt (by omega)] at hR
      subst hR
      have QA := Lib.hid qa
      have QB := Lib.hid qb
      clear qa qb ka kb na nb ha hb
      go_enter Try.func54, Try.ntmps54
      go_wp2_with (go_at_call 74; first | (refine QA.out.mono ?_; rintro e w' ⟨rfl, rfl⟩) | (refine QB.out.mono ?_; rintro e w' ⟨rfl, rfl⟩))
      go_returns
      exact ⟨rfl, rfl⟩
    | false =>
      have qb : Calls Try.prog 74 #[.float .f64 b] w fun e w' => e = .returned (.bool false) ∧ w = w' := by have := isnan b w; rw [nb] at this; exact this
      have kb := key_num nb hb
      have QA := Lib.hid qa
      have QB := Lib.hid qb
      have NA := Lib.hid na
      have NB := Lib.hid nb
      have hcase : sv a < sv b ∨ sv b < sv a ∨ sv a = sv b := by omega
      rcases hcase with h | h | h
      · have hr : R = (if sv a < sv b then -1 else if sv b < sv a then 1 else 0) := by rw [hR, if_pos h, orderK_lt (by omega)]
        have HRr := Lib.hid hr
        have ho := cmp_lt na nb h
        clear qa qb ka kb na nb ha hb h hr hR
        go_enter Try.func54, Try.ntmps54
        go_wp2_with (first
          | (go_at_call 74; first | (refine QA.out.mono ?_; rintro e w' ⟨rfl, rfl⟩) | (refine QB.out.mono ?_; rintro e w' ⟨rfl, rfl⟩))
          | (go_at_call 77; refine (compare_f a b NA.out NB.out _).mono ?_; rintro e w' ⟨rfl, rfl⟩; rw [← HRr.out]))
        go_returns
        exact ⟨rfl, rfl⟩
      · have hr : R = (if sv a < sv b then -1 else if sv b < sv a then 1 else 0) := by rw [hR, if_neg (by omega), if_pos h, orderK_gt (by omega)]
        have HRr := Lib.hid hr
        have ho := cmp_gt na nb h
        clear qa qb ka kb na nb ha hb h hr hR
        go_enter Try.func54, Try.ntmps54
        go_wp2_with (first
          | (go_at_call 74; first | (refine QA.out.mono ?_; rintro e w' ⟨rfl, rfl⟩) | (refine QB.out.mono ?_; rintro e w' ⟨rfl, rfl⟩))
          | (go_at_call 77; refine (compare_f a b NA.out NB.out _).mono ?_; rintro e w' ⟨rfl, rfl⟩; rw [← HRr.out]))
        go_returns
        exact ⟨rfl, rfl⟩
      · have hr : R = (if sgnI a < sgnI b then -1 else if sgnI b < sgnI a then 1 else 0) := by
          obtain ⟨_, ka⟩ := ka
          obtain ⟨_, kb⟩ := kb
          rw [hR]
          rcases ka with ⟨a1, a2, a3, a4, a5⟩ | ⟨a1, a2, a3, a4, a5⟩ <;> rcases kb with ⟨b1, b2, b3, b4, b5⟩ | ⟨b1, b2, b3, b4, b5⟩
          · rw [orderK_eq (by omega), sgnI, sgnI, a4, b4]; rfl
          · rw [orderK_lt (by omega), sgnI, sgnI, a4, b4]; rfl
          · rw [orderK_gt (by omega), sgnI, sgnI, a4, b4]; rfl
          · rw [orderK_eq (by omega), sgnI, sgnI, a4, b4]; rfl
        have HRr := Lib.hid hr
        have HA := Lib.hid ha
        have HB := Lib.hid hb
        have ho := cmp_eq na nb h
        clear qa qb ka kb na nb ha hb h hr hR
        go_enter Try.func54, Try.ntmps54
        go_wp2_with (first
          | (go_at_call 74; first | (refine QA.out.mono ?_; rintro e w' ⟨rfl, rfl⟩) | (refine QB.out.mono ?_; rintro e w' ⟨rfl, rfl⟩))
          | (go_at_call 76; first | (refine (sign_any a HA.out _).mono ?_; rintro e w' ⟨rfl, rfl⟩) | (refine (sign_any b HB.out _).mono ?_; rintro e w' ⟨rfl, rfl⟩))
          | (go_at_call 75; refine (compare_int (sgnI a) (sgnI b) _).mono ?_; rintro e w' ⟨rfl, rfl⟩; rw [← HRr.out]))
        go_returns
        exact ⟨rfl, rfl⟩
theorem same_any (a b : Nat) (ha : a < 18446744073709551616) (hb : b < 18446744073709551616) (w : World) : Calls Try.prog 40 #[.float .f64 a, .float .f64 b] w fun e w' => e = .returned (.bool (decide (orderF a b = 0))) ∧ w = w' := by
  have HA := Lib.hid ha
  have HB := Lib.hid hb
  clear ha hb
  go_enter Try.func40, Try.ntmps40
  go_wp2_with fail
  refine (order_any a b HA.out HB.out _).mono ?_
  rintro e w' ⟨rfl, rfl⟩
  go_wp2
  go_returns
  exact ⟨rfl, rfl⟩
end Go.Proofs.Ytplppmgecknhiaa.MeterC
