/- Contracts of the functions on floats of layer 25. -/
import Derived.Test.YtplppmgecknhiaaMeterA
import Derived.Test.YtplppmgecknhiaaShelf
import Derived.WalkLawsBesides
import Derived.WalkSpells
import Derived.Below
import Derived.Lib.Hide
import Derived.Outline
import Derived.Laws.Externs
namespace Go.Proofs.Ytplppmgecknhiaa.MeterB
open Go.RowKit Go.Proofs.Ytplppmgecknhiaa.MeterA
set_option linter.unusedVariables false
theorem cmp_run (op : BinOp) (a b : Nat) (v : Bool) (h : op = .eql ∧ v = (Ieee.double.order a b == some .eq) ∨ op = .neq ∧ v = (Ieee.double.order a b != some .eq) ∨ op = .lss ∧ v = (Ieee.double.order a b == some .lt) ∨ op = .gtr ∧ v = (Ieee.double.order a b == some .gt)) (t : TypeId) (w : World) :
    (binOp op t (.float .f64 a) (.float .f64 b)).run Try.prog w = .ok (.bool v) w := by
  rcases h with ⟨rfl, rfl⟩ | ⟨rfl, rfl⟩ | ⟨rfl, rfl⟩ | ⟨rfl, rfl⟩ <;> simp [binOp, Op.floatCmp] <;> rfl
theorem run_bits (b : Nat) (w : World) : (callFunc 83 #[.float .f64 b]).run Try.prog w = .ok (.value (.int .u64 b)) w := by
  rw [run_callFunc_extern (e := Extern.MathFloatBits.float64bits) Try.func83 (by kernel_rfl) (by kernel_rfl) (by kernel_rfl) (by kernel_rfl)]
  rfl
theorem run_frombits (n : Int) (w : World) : (callFunc 81 #[.int .u64 n]).run Try.prog w = .ok (.value (.float .f64 n.toNat)) w := by
  rw [run_callFunc_extern (e := Extern.MathFloatBits.float64frombits) Try.func81 (by kernel_rfl) (by kernel_rfl) (by kernel_rfl) (by kernel_rfl)]
  rfl
theorem order_self (b : Nat) : (Ieee.double.order b b != some .eq) = nan b := by
  cases h : nan b with
  | true => rw [order_nan_l b b h]; rfl
  | false => rw [order_sv b b h h, ce]; rfl
theorem isnan (b : Nat) (w : World) : Calls Try.prog 74 #[.float .f64 b] w fun e w' => e = .returned (.bool (nan b)) ∧ w = w' := by
  go_enter Try.func74, Try.ntmps74
  go_wp2
  go_returns
  exact ⟨congrArg (fun z => Ending.returned (.bool z)) (order_self b), rfl⟩
theorem cisnan (b : Nat) (w : World) : Calls Try.prog 86 #[.float .f64 b] w fun e w' => e = .returned (.bool (nan b)) ∧ w = w' := by
  go_enter Try.func86, Try.ntmps86
  go_wp2
  go_returns
  exact ⟨congrArg (fun z => Ending.returned (.bool z)) (order_self b), rfl⟩
theorem nan_any (w : World) : Calls Try.prog 67 #[] w fun e w' => e = .returned (.float .f64 9221120237041090561) ∧ w = w' := by
  have hx : ∀ w : World, (callFunc 81 #[.int .u64 9221120237041090561]).run Try.prog w = .ok (.value (.float .f64 9221120237041090561)) w := fun w => run_frombits _ w
  go_enter Try.func67, Try.ntmps67
  go_wp2
  go_returns
  exact ⟨rfl, rfl⟩
def sgn (b : Nat) : Bool := decide (top ≤ b)
theorem signbit (b : Nat) (hb : b < 18446744073709551616) (w : World) : Calls Try.prog 85 #[.float .f64 b] w fun e w' => e = .returned (.bool (sgn b)) ∧ w = w' := by
  have e : decide (wrap64 (b : Int) < 0) = sgn b := by
    unfold wrap64 sgn top
    rw [Bool.eq_iff_iff]
    simp
    omega
  have hx : ∀ w : World, (callFunc 83 #[.float .f64 b]).run Try.prog w = .ok (.value (.int .u64 b)) w := run_bits b
  go_enter Try.func85, Try.ntmps85
  go_wp2
  go_returns
  exact ⟨rfl, rfl⟩
def key (b : Nat) : Nat := if nan b then 18446744073709551615 else if top ≤ b then 18446744073709551615 - b else b + top
def orderK (x y : Nat) : Int := if x < y then -1 else if y < x then 1 else 0
def orderF (a b : Nat) : Int := orderK (key a) (key b)
theorem orderK_lt {x y : Nat} (h : x < y) : orderK x y = -1 := if_pos h
theorem orderK_gt {x y : Nat} (h : y < x) : orderK x y = 1 := by unfold orderK; rw [if_neg (by omega), if_pos h]
theorem orderK_eq {x y : Nat} (h : x = y) : orderK x y = 0 := by unfold orderK; rw [if_neg (by omega), if_neg (by omega)]
theorem key_nan {b : Nat} (h : nan b = true) : key b = 18446744073709551615 := by unfold key; rw [h]; rfl
theorem key_num {b : Nat} (h : nan b = false) (hb : b < 18446744073709551616) : key b < 18446744073709551615 ∧ ((top ≤ b ∧ (key b : Int) = 9223372036854775807 + sv b ∧ sv b ≤ 0 ∧ sgn b = true ∧ sv b = 9223372036854775808 - (b : Int)) ∨ (b < top ∧ (key b : Int) = 9223372036854775808 + sv b ∧ 0 ≤ sv b ∧ sgn b = false ∧ sv b = b)) := by
  have hn : b % top ≤ inf := by simpa [nan] using h
  have et : top = 9223372036854775808 := rfl
  have ei : inf = 9218868437227405312 := rfl
  by_cases k : top ≤ b
  · have ek : key b = 18446744073709551615 - b := by unfold key; rw [h, if_neg Bool.false_ne_true, if_pos k]
    have e1 : b / top % 2 = 1 := by rw [et] at k ⊢; omega
    have e2 : b % top = b - top := by rw [et] at k ⊢; omega
    have es : sv b = -((b - top : Nat) : Int) := by unfold sv sg; rw [e1, e2, if_pos (beq_self_eq_true 1)]
    have eg : sgn b = true := decide_eq_true k
    rw [e2] at hn
    rw [ek, es]
    generalize top = t at *
    exact ⟨by omega, .inl ⟨k, by omega, by omega, eg, by omega⟩⟩
  · have ek : key b = b + top := by unfold key; rw [h, if_neg Bool.false_ne_true, if_neg k]
    have e1 : b / top % 2 = 0 := by rw [et] at k ⊢; omega
    have e2 : b % top = b := by rw [et] at k ⊢; omega
    have es : sv b = (b : Int) := by unfold sv sg; rw [e1, e2, if_neg (by decide)]
    have eg : sgn b = false := decide_eq_false k
    rw [e2] at hn
    rw [ek, es]
    generalize top = t at *
    exact ⟨by omega, .inr ⟨by omega, by omega, by omega, eg, by omega⟩⟩
theorem cmp_lt {a b : Nat} (ha : nan a = false) (hb : nan b = false) (h : sv a < sv b) : FloatKind.f64.format.order a b = some .lt := by
  show Ieee.double.order a b = _
  rw [order_sv a b ha hb, cl _ _ h]
theorem cmp_gt {a b : Nat} (ha : nan a = false) (hb : nan b = false) (h : sv b < sv a) : FloatKind.f64.format.order a b = some .gt := by
  show Ieee.double.order a b = _
  rw [order_sv a b ha hb, cg _ _ h]
theorem cmp_eq {a b : Nat} (ha : nan a = false) (hb : nan b = false) (h : sv a = sv b) : FloatKind.f64.format.order a b = some .eq := by
  show Ieee.double.order a b = _
  rw [order_sv a b ha hb, h, ce]
theorem compare_int (x y : Int) (w : World) : Calls Try.prog 75 #[.int .i64 x, .int .i64 y] w fun e w' => e = .returned (.int .i64 (if x < y then -1 else if y < x then 1 else 0)) ∧ w = w' := by
  have hcase : x < y ∨ (y ≤ x ∧ y < x) ∨ x = y := by omega
  have q : ∀ z : Int, Calls Try.prog 84 #[.int .i64 z] w fun e w' => e = .returned (.bool false) ∧ w = w' := by
    intro z
    go_enter Try.func84, Try.ntmps84
    go_wp2
    go_returns
    exact ⟨rfl, rfl⟩
  rcases hcase with h | ⟨h, h2⟩ | rfl
  · rw [if_pos h]
    go_enter Try.func75, Try.ntmps75
    go_wp2_with (go_at_call 84; refine (q _).mono ?_; rintro e w' ⟨rfl, rfl⟩)
    go_returns
    exact ⟨rfl, rfl⟩
  · rw [if_neg (by omega), if_pos h2]
    go_enter Try.func75, Try.ntmps75
    go_wp2_with (go_at_call 84; refine (q _).mono ?_; rintro e w' ⟨rfl, rfl⟩)
    go_returns
    exact ⟨rfl, rfl⟩
  · rw [if_neg (by omega), if_neg (by omega)]
    go_enter Try.func75, Try.ntmps75
    go_wp2_with (go_at_call 84; refine (q _).mono ?_; rintro e w' ⟨rfl, rfl⟩)
    go_returns
    exact ⟨rfl, rfl⟩
def sgnI (b : Nat) : Int := if sgn b then -1 else 0
theorem sign_any (b : Nat) (hb : b < 18446744073709551616) (w : World) : Calls Try.prog 76 #[.float .f64 b] w fun e w' => e = .returned (.int .i64 (sgnI b)) ∧ w = w' := by
  unfold sgnI
  have H := hb
  cases h : sgn b
  all_goals
    have HH := Lib.hid h
    have HB := Lib.hid hb
    clear h hb H
    go_enter Try.func76, Try.ntmps76
    go_wp2_with fail
    refine (signbit b HB.out _).mono ?_
    rintro e w' ⟨rfl, rfl⟩
    rw [HH.out]
    go_wp2
    go_returns
    exact ⟨rfl, rfl⟩
end Go.Proofs.Ytplppmgecknhiaa.MeterB
