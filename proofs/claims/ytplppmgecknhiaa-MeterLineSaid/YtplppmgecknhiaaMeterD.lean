/- Contracts of the document's Order and Same of layer 25. -/
import Derived.Test.YtplppmgecknhiaaMeterC
import Derived.Laws.DeepNot64
namespace Go.Proofs.Ytplppmgecknhiaa.MeterD
open Go.RowKit Go.Proofs.Ytplppmgecknhiaa.MeterA Go.Proofs.Ytplppmgecknhiaa.MeterB Go.Proofs.Ytplppmgecknhiaa.MeterC
set_option linter.unusedVariables false
set_option linter.unusedSimpArgs false
theorem u64_not (a : Nat) (ha : a < 18446744073709551616) : bits .xor .u64 IntKind.u64.max (a : Int) = ((18446744073709551615 - a : Nat) : Int) := by
  show IntKind.u64.wrap ((BitVec.ofInt 64 IntKind.u64.max ^^^ BitVec.ofInt 64 (a : Int)).toNat : Int) = _
  have h1 : BitVec.ofInt 64 IntKind.u64.max = BitVec.allOnes 64 := by decide
  rw [h1, BitVec.allOnes_xor, BitVec.toNat_not, ofInt_u64 a (by omega), IntKind.wrap_u64]
  omega
theorem key_any (b : Nat) (hb : b < 18446744073709551616) (w : World) : Calls Try.prog 72 #[.float .f64 b] w fun e w' => e = .returned (.int .u64 (key b)) ∧ w = w' := by
  cases nb : nan b with
  | true =>
    have ho : FloatKind.f64.format.order b b = none := order_nan_l b b nb
    rw [key_nan nb]
    clear nb hb
    go_enter Try.func72, Try.ntmps72
    go_wp2
    go_returns
    exact ⟨rfl, rfl⟩
  | false =>
    have ho : FloatKind.f64.format.order b b = some .eq := cmp_eq nb nb rfl
    have hx : ∀ w : World, (callFunc 83 #[.float .f64 b]).run Try.prog w = .ok (.value (.int .u64 b)) w := run_bits b
    by_cases k : 9223372036854775808 ≤ b
    · have ek : key b = 18446744073709551615 - b := by unfold key; rw [nb, if_neg Bool.false_ne_true]; exact if_pos k
      have hd : (b : Int) / 9223372036854775808 = 1 := by omega
      have hn := u64_not b hb
      rw [ek]
      generalize 18446744073709551615 - b = K at *
      clear nb hb ek k
      go_enter Try.func72, Try.ntmps72
      go_wp2
      all_goals go_returns
      all_goals exact ⟨rfl, rfl⟩
    · have ek : key b = b + 9223372036854775808 := by unfold key; rw [nb, if_neg Bool.false_ne_true]; exact if_neg k
      have hd : (b : Int) / 9223372036854775808 = 0 := by omega
      have hn : IntKind.u64.wrap ((b : Int) + 9223372036854775808) = ((b + 9223372036854775808 : Nat) : Int) := by rw [IntKind.wrap_u64]; omega
      rw [ek]
      generalize b + 9223372036854775808 = K at *
      clear nb hb ek k
      go_enter Try.func72, Try.ntmps72
      go_wp2
      all_goals go_returns
      all_goals exact ⟨rfl, rfl⟩
theorem rorder_any (a b : Nat) (ha : a < 18446744073709551616) (hb : b < 18446744073709551616) (w : World) : Calls Try.prog 55 #[.float .f64 a, .float .f64 b] w fun e w' => e = .returned (.int .i64 (orderF a b)) ∧ w = w' := by
  have QA := Lib.hid (fun w => key_any a ha w)
  have QB := Lib.hid (fun w => key_any b hb w)
  clear ha hb
  have hcase : key a < key b ∨ (key b ≤ key a ∧ key b < key a) ∨ (key a = key b) := by omega
  unfold orderF
  generalize key a = x at *
  generalize key b = y at *
  rcases hcase with h | ⟨h, h2⟩ | rfl
  · rw [orderK_lt h]
    go_enter Try.func55, Try.ntmps55
    go_wp2_with (go_at_call 72; first | (with_reducible refine (QA.out _).mono ?_; rintro e w' ⟨rfl, rfl⟩) | (with_reducible refine (QB.out _).mono ?_; rintro e w' ⟨rfl, rfl⟩))
    go_returns
    exact ⟨rfl, rfl⟩
  · rw [orderK_gt h2]
    go_enter Try.func55, Try.ntmps55
    go_wp2_with (go_at_call 72; first | (with_reducible refine (QA.out _).mono ?_; rintro e w' ⟨rfl, rfl⟩) | (with_reducible refine (QB.out _).mono ?_; rintro e w' ⟨rfl, rfl⟩))
    go_returns
    exact ⟨rfl, rfl⟩
  · rw [orderK_eq rfl]
    go_enter Try.func55, Try.ntmps55
    go_wp2_with (go_at_call 72; first | (with_reducible refine (QA.out _).mono ?_; rintro e w' ⟨rfl, rfl⟩) | (with_reducible refine (QB.out _).mono ?_; rintro e w' ⟨rfl, rfl⟩))
    go_returns
    exact ⟨rfl, rfl⟩
theorem rsame_any (a b : Nat) (ha : a < 18446744073709551616) (hb : b < 18446744073709551616) (w : World) : Calls Try.prog 52 #[.float .f64 a, .float .f64 b] w fun e w' => e = .returned (.bool (decide (orderF a b = 0))) ∧ w = w' := by
  have QA := Lib.hid (fun w => key_any a ha w)
  have QB := Lib.hid (fun w => key_any b hb w)
  clear ha hb
  have he : decide (orderF a b = 0) = decide (key a = key b) := by
    rw [Bool.eq_iff_iff, decide_eq_true_iff, decide_eq_true_iff]
    unfold orderF
    rcases Nat.lt_trichotomy (key a) (key b) with h | h | h
    · rw [orderK_lt h]; omega
    · rw [orderK_eq h]; omega
    · rw [orderK_gt h]; omega
  rw [he]
  clear he
  have hcase : (key a = key b) ∨ key a ≠ key b := by omega
  generalize key a = x at *
  generalize key b = y at *
  rcases hcase with rfl | h
  · go_enter Try.func52, Try.ntmps52
    go_wp2_with (go_at_call 72; first | (with_reducible refine (QA.out _).mono ?_; rintro e w' ⟨rfl, rfl⟩) | (with_reducible refine (QB.out _).mono ?_; rintro e w' ⟨rfl, rfl⟩))
    go_returns
    exact ⟨by simp, rfl⟩
  · have hb2 : ((x : Int) == (y : Int)) = false := by simpa using (by omega : ¬ (x : Int) = y)
    rw [decide_eq_false h]
    clear h
    go_enter Try.func52, Try.ntmps52
    go_wp2_with (go_at_call 72; first | (with_reducible refine (QA.out _).mono ?_; rintro e w' ⟨rfl, rfl⟩) | (with_reducible refine (QB.out _).mono ?_; rintro e w' ⟨rfl, rfl⟩))
    go_returns
    exact ⟨by simp [hb2], rfl⟩
end Go.Proofs.Ytplppmgecknhiaa.MeterD
