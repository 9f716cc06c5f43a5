/- Contracts of the loops on floats of layer 25: the program's best and the document's. Condition: a row of floats. -/
import Derived.Test.YtplppmgecknhiaaMeterD
import Derived.Test.YtplppmgecknhiaaOpenB
import Derived.BigQuiet
import Derived.Deep.QuietTactic
namespace Go.Proofs.Ytplppmgecknhiaa.MeterM
open Go.RowKit Go.Proofs.Ytplppmgecknhiaa.MeterA Go.Proofs.Ytplppmgecknhiaa.MeterB Go.Proofs.Ytplppmgecknhiaa.MeterC Go.Proofs.Ytplppmgecknhiaa.MeterD Go.Proofs.Ytplppmgecknhiaa.OpenB
set_option linter.unusedVariables false
set_option linter.unusedSimpArgs false
def qnan : Nat := 9221120237041090561
def takes (f o : Nat) (want : Int) : Bool := !nan f && (nan o || orderF f o == want)
def nxt (f o : Nat) (want : Int) : Nat := if takes f o want then f else o
def bestN (z : Nat → Nat) (want : Int) : Nat → Nat
  | 0 => qnan
  | k + 1 => nxt (z k) (bestN z want k) want
theorem qnan_lt : qnan < 18446744073709551616 := by decide
theorem best_lt {z : Nat → Nat} {want : Int} {n : Nat} (hz : ∀ i, i < n → z i < 18446744073709551616) (k : Nat) (hk : k ≤ n) : bestN z want k < 18446744073709551616 := by
  induction k with
  | zero => exact qnan_lt
  | succ k ih =>
    have := ih (by omega)
    have := hz k (by omega)
    unfold bestN nxt
    split <;> assumption
theorem nxt_ways (f o : Nat) (want : Int) : (nan f = true ∧ nxt f o want = o) ∨ (nan f = false ∧ nan o = true ∧ nxt f o want = f) ∨ (nan f = false ∧ nan o = false ∧ (orderF f o == want) = true ∧ nxt f o want = f) ∨ (nan f = false ∧ nan o = false ∧ (orderF f o == want) = false ∧ nxt f o want = o) := by
  unfold nxt takes
  cases h1 : nan f <;> cases h2 : nan o <;> cases h3 : (orderF f o == want) <;> simp
theorem isnan_v (b : Nat) (v : Bool) (h : nan b = v) (w : World) : Calls Try.prog 74 #[.float .f64 b] w fun e w' => e = .returned (.bool v) ∧ w = w' := h ▸ isnan b w
set_option maxHeartbeats 1000000 in
theorem best_any (a : Option Addr) (len cap : Nat) (z : Nat → Nat) (want : Int) (w : World) (hrow : IsFloats w a len z) (hl : len ≤ 200) :
    Calls Try.prog 78 #[.slice a len cap, .int .i64 want] w fun e w' => e = .returned (.float .f64 (bestN z want len)) ∧ w = w' := by
  have HR := Lib.hid hrow
  clear hrow
  go_enter Try.func78, Try.ntmps78
  go_wp2_with (go_at_call 67; refine (nan_any _).mono ?_; rintro e w' ⟨rfl, rfl⟩)
  go_loop [5, 11] (fun o i => ∃ k : Nat, k ≤ len ∧ i = .int .i64 k ∧ o = .float .f64 (bestN z want k)) (fun _ i => len - (intOf i).toNat)
  case atStart => exact ⟨0, Nat.zero_le _, rfl, rfl⟩
  case round =>
    obtain ⟨k, hk, rfl, rfl⟩ := hrel
    by_cases hlt : k < len
    · obtain ⟨b, off, rfl, hbz, hall⟩ := floats_at HR.out (by omega)
      obtain ⟨hc, hb⟩ := hall k hlt
      have HO := Lib.hid (best_lt (want := want) (fun i hi => (hall i hi).2) k hk)
      clear hall
      have HE : Hid (bestN z want (k + 1) = nxt (z k) (bestN z want k) want) := Lib.hid rfl
      generalize bestN z want k = o at *
      generalize z k = f at *
      have HB := Lib.hid hb
      clear hb
      rcases nxt_ways f o want with ⟨n1, n2⟩ | ⟨n1, n2, n3⟩ | ⟨n1, n2, n3, n4⟩ | ⟨n1, n2, n3, n4⟩
      · have N := Lib.hid (fun w => isnan_v f _ n1 w)
        have E : Hid (bestN z want (k + 1) = o) := Lib.hid (HE.out.trans n2)
        clear n1 n2 HE
        go_wp2_with (go_at_call 74; refine (N.out _).mono ?_; rintro e w' ⟨rfl, rfl⟩)
        go_round
        case rel => exact ⟨k + 1, by omega, by go_num, by rw [E.out]⟩
        case measure => simp [intOf]; omega
      · have N := Lib.hid (fun w => isnan_v f _ n1 w)
        have M := Lib.hid (fun w => isnan_v o _ n2 w)
        have E : Hid (bestN z want (k + 1) = f) := Lib.hid (HE.out.trans n3)
        clear n1 n2 n3 HE
        go_wp2_with (go_at_call 74; first | (with_reducible refine (N.out _).mono ?_; rintro e w' ⟨rfl, rfl⟩) | (with_reducible refine (M.out _).mono ?_; rintro e w' ⟨rfl, rfl⟩))
        go_round
        case rel => exact ⟨k + 1, by omega, by go_num, by rw [E.out]⟩
        case measure => simp [intOf]; omega
      · have N := Lib.hid (fun w => isnan_v f _ n1 w)
        have M := Lib.hid (fun w => isnan_v o _ n2 w)
        have R := Lib.hid (fun w => order_any f o HB.out HO.out w)
        have E : Hid (bestN z want (k + 1) = f) := Lib.hid (HE.out.trans n4)
        clear n1 n2 n4 HE
        generalize orderF f o = q at *
        go_wp2_with (first | (go_at_call 54; refine (R.out _).mono ?_; rintro e w' ⟨rfl, rfl⟩) | (go_at_call 74; first | (with_reducible refine (N.out _).mono ?_; rintro e w' ⟨rfl, rfl⟩) | (with_reducible refine (M.out _).mono ?_; rintro e w' ⟨rfl, rfl⟩)))
        go_round
        case rel => exact ⟨k + 1, by omega, by go_num, by rw [E.out]⟩
        case measure => simp [intOf]; omega
      · have N := Lib.hid (fun w => isnan_v f _ n1 w)
        have M := Lib.hid (fun w => isnan_v o _ n2 w)
        have R := Lib.hid (fun w => order_any f o HB.out HO.out w)
        have E : Hid (bestN z want (k + 1) = o) := Lib.hid (HE.out.trans n4)
        clear n1 n2 n4 HE
        generalize orderF f o = q at *
        go_wp2_with (first | (go_at_call 54; refine (R.out _).mono ?_; rintro e w' ⟨rfl, rfl⟩) | (go_at_call 74; first | (with_reducible refine (N.out _).mono ?_; rintro e w' ⟨rfl, rfl⟩) | (with_reducible refine (M.out _).mono ?_; rintro e w' ⟨rfl, rfl⟩)))
        go_round
        case rel => exact ⟨k + 1, by omega, by go_num, by rw [E.out]⟩
        case measure => simp [intOf]; omega
    · obtain rfl : k = len := by omega
      clear HR
      go_wp2
      go_returns
      exact ⟨rfl, rfl⟩
theorem ord_nan {b : Nat} (h : nan b = true) : FloatKind.f64.format.order b b = none := order_nan_l b b h
theorem ord_num {b : Nat} (h : nan b = false) : FloatKind.f64.format.order b b = some .eq := cmp_eq h h rfl
theorem rorder_q (a b : Nat) (ha : a < 18446744073709551616) (hb : b < 18446744073709551616) (w : World) : Calls Try.prog 55 #[.float .f64 a, .float .f64 b] w fun e w' => e = .returned (.int .i64 (orderF a b)) ∧ w' = w :=
  (rorder_any a b ha hb w).mono fun _ _ h => ⟨h.1, h.2.symm⟩
set_option maxHeartbeats 2000000 in
theorem rbest_any (a : Option Addr) (len cap : Nat) (z : Nat → Nat) (want : Int) (w : World) (hrow : IsFloats w a len z) (hl : len ≤ 200) :
    Calls Try.prog 79 #[.slice a len cap, .int .i64 want] w fun e w' => e = .returned (.float .f64 (bestN z want len)) ∧ ∃ n, w' = w.drewN n := by
  have HR := Lib.hid hrow
  clear hrow
  go_enter Try.func79, Try.ntmps79
  go_wp2_with (go_at_call 67; refine (nan_any _).mono ?_; rintro e w' ⟨rfl, rfl⟩)
  go_loopw [5, 6] (fun o i wr => ∃ k n : Nat, k ≤ len ∧ i = .int .i64 k ∧ o = .float .f64 (bestN z want k) ∧ wr = w.drewN n) (fun _ i _ => len - (intOf i).toNat)
  case atStart => exact ⟨0, 0, Nat.zero_le _, rfl, rfl, rfl⟩
  case round =>
    obtain ⟨k, n, hk, rfl, rfl, hw⟩ := hrel
    have HW := Lib.hid hw
    clear hw
    by_cases hlt : k < len
    · obtain ⟨b, off, rfl, hbz, hall⟩ := floats_at HR.out (by omega)
      obtain ⟨hc, hb⟩ := hall k hlt
      have HO := Lib.hid (best_lt (want := want) (fun i hi => (hall i hi).2) k hk)
      clear hall
      replace hc : wr.cell? ⟨b, off + k, none⟩ = some (.float .f64 (z k)) := by rw [HW.out]; exact hc
      clear hbz
      have HE : Hid (bestN z want (k + 1) = nxt (z k) (bestN z want k) want) := Lib.hid rfl
      generalize bestN z want k = o at *
      generalize z k = f at *
      have HB := Lib.hid hb
      clear hb
      rcases nxt_ways f o want with ⟨n1, n2⟩ | ⟨n1, n2, n3⟩ | ⟨n1, n2, n3, n4⟩ | ⟨n1, n2, n3, n4⟩
      · have N := ord_nan n1
        have E : Hid (bestN z want (k + 1) = o) := Lib.hid (HE.out.trans n2)
        clear n1 n2 HE
        go_wp2
        go_quiet (fail)
        go_wp2
        go_roundw
        case rel => exact ⟨k + 1, _, by omega, by go_num, by rw [E.out], by rw [HW.out, World.drewN_drewN]⟩
        case measure => simp [intOf]; omega
      · have N := ord_num n1
        have M : (FloatKind.f64.format.order o o != some .eq) = true := by rw [ord_nan n2]; rfl
        have M1 : (FloatKind.f64.format.order o o == some .eq) = false := by rw [ord_nan n2]; rfl
        have E : Hid (bestN z want (k + 1) = f) := Lib.hid (HE.out.trans n3)
        clear n1 n2 n3 HE
        go_wp2
        go_quiet (fail)
        go_wp2
        go_roundw
        case rel => exact ⟨k + 1, _, by omega, by go_num, by rw [E.out], by rw [HW.out, World.drewN_drewN]⟩
        case measure => simp [intOf]; omega
      · have N := ord_num n1
        have M := ord_num n2
        have R := Lib.hid (fun w => rorder_q f o HB.out HO.out w)
        have E : Hid (bestN z want (k + 1) = f) := Lib.hid (HE.out.trans n4)
        clear n1 n2 n4 HE
        generalize orderF f o = q at *
        go_wp2
        go_quiet ((go_at_call 55; exact Calls.quiet_of_same (R.out _)))
        go_wp2
        go_roundw
        case rel => exact ⟨k + 1, _, by omega, by go_num, by rw [E.out], by rw [HW.out, World.drewN_drewN]⟩
        case measure => simp [intOf]; omega
      · have N := ord_num n1
        have M := ord_num n2
        have R := Lib.hid (fun w => rorder_q f o HB.out HO.out w)
        have E : Hid (bestN z want (k + 1) = o) := Lib.hid (HE.out.trans n4)
        clear n1 n2 n4 HE
        generalize orderF f o = q at *
        go_wp2
        go_quiet ((go_at_call 55; exact Calls.quiet_of_same (R.out _)))
        go_wp2
        go_roundw
        case rel => exact ⟨k + 1, _, by omega, by go_num, by rw [E.out], by rw [HW.out, World.drewN_drewN]⟩
        case measure => simp [intOf]; omega
    · obtain rfl : k = len := by omega
      clear HR
      go_wp2
      go_returns
      exact ⟨rfl, _, HW.out⟩
end Go.Proofs.Ytplppmgecknhiaa.MeterM
