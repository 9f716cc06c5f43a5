/- The walk of MeterOrders: for any two floats and any floats in a list the law returns true. Condition: the row's own bounds. -/
import Derived.Test.YtplppmgecknhiaaMeterM
import Derived.Test.YtplppmgecknhiaaMeterL
namespace Go.Proofs.Ytplppmgecknhiaa.MeterN
open Go.RowKit Go.Proofs.Ytplppmgecknhiaa.MeterA Go.Proofs.Ytplppmgecknhiaa.MeterB Go.Proofs.Ytplppmgecknhiaa.MeterC Go.Proofs.Ytplppmgecknhiaa.MeterD Go.Proofs.Ytplppmgecknhiaa.MeterH Go.Proofs.Ytplppmgecknhiaa.MeterM Go.Proofs.Ytplppmgecknhiaa.OpenB
set_option linter.unusedVariables false
set_option linter.unusedSimpArgs false
theorem most_any (a : Option Addr) (len cap : Nat) (z : Nat → Nat) (w : World) (hrow : IsFloats w a len z) (hl : len ≤ 200) :
    Calls Try.prog 56 #[.slice a len cap] w fun e w' => e = .returned (.float .f64 (bestN z 1 len)) ∧ w = w' := by
  have C := Lib.hid (best_any a len cap z 1 w hrow hl)
  clear hrow
  go_enter Try.func56, Try.ntmps56
  go_wp2_with (go_at_call 78; refine (C.out).mono ?_; rintro e w' ⟨rfl, rfl⟩)
  go_returns
  exact ⟨rfl, rfl⟩
theorem least_any (a : Option Addr) (len cap : Nat) (z : Nat → Nat) (w : World) (hrow : IsFloats w a len z) (hl : len ≤ 200) :
    Calls Try.prog 58 #[.slice a len cap] w fun e w' => e = .returned (.float .f64 (bestN z (-1) len)) ∧ w = w' := by
  have C := Lib.hid (best_any a len cap z (-1) w hrow hl)
  clear hrow
  go_enter Try.func58, Try.ntmps58
  go_wp2_with (go_at_call 78; refine (C.out).mono ?_; rintro e w' ⟨rfl, rfl⟩)
  go_returns
  exact ⟨rfl, rfl⟩
theorem rmost_any (a : Option Addr) (len cap : Nat) (z : Nat → Nat) (w : World) (hrow : IsFloats w a len z) (hl : len ≤ 200) :
    Calls Try.prog 57 #[.slice a len cap] w fun e w' => e = .returned (.float .f64 (bestN z 1 len)) ∧ ∃ n, w' = w.drewN n := by
  have C := Lib.hid (rbest_any a len cap z 1 w hrow hl)
  clear hrow
  go_enter Try.func57, Try.ntmps57
  go_wp2_with (go_at_call 79; refine (C.out).mono ?_; rintro e w' ⟨rfl, n, rfl⟩)
  go_returns
  exact ⟨rfl, _, rfl⟩
theorem rleast_any (a : Option Addr) (len cap : Nat) (z : Nat → Nat) (w : World) (hrow : IsFloats w a len z) (hl : len ≤ 200) :
    Calls Try.prog 59 #[.slice a len cap] w fun e w' => e = .returned (.float .f64 (bestN z (-1) len)) ∧ ∃ n, w' = w.drewN n := by
  have C := Lib.hid (rbest_any a len cap z (-1) w hrow hl)
  clear hrow
  go_enter Try.func59, Try.ntmps59
  go_wp2_with (go_at_call 79; refine (C.out).mono ?_; rintro e w' ⟨rfl, n, rfl⟩)
  go_returns
  exact ⟨rfl, _, rfl⟩
theorem floats_drewN {w : World} {a : Option Addr} {len : Nat} {z : Nat → Nat} (h : IsFloats w a len z) (n : Nat) : IsFloats (w.drewN n) a len z := h
theorem floats_below {w w' : World} {a : Option Addr} {len : Nat} {z : Nat → Nat} (h : IsFloats w a len z) (hb : Below w.heap.size w w') : IsFloats w' a len z :=
  ⟨h.1, fun i hi ad had => by
    obtain ⟨h1, h2⟩ := h.2 i hi ad had
    have := World.block_lt_of_cell? w _ h1
    exact ⟨(hb.cell this).trans h1, h2⟩⟩
theorem best_bound {w : World} {a : Option Addr} {len : Nat} {z : Nat → Nat} (want : Int) (h : IsFloats w a len z) : bestN z want len < 18446744073709551616 := by
  rcases Nat.eq_zero_or_pos len with rfl | hp
  · exact qnan_lt
  · obtain ⟨ad, rfl⟩ := h.1 hp
    exact best_lt (fun i hi => (h.2 i hi _ rfl).2) len (Nat.le_refl _)
set_option maxHeartbeats 2000000 in
theorem orders_walk (W : World) (a : Nat) (ha : a < 18446744073709551616) (b : Nat) (hb : b < 18446744073709551616) (s : Option Addr) (len cap : Nat) (z : Nat → Nat) (hrow : IsFloats W s len z) (hcap : len ≤ cap) (hbytes : len * 8 ≤ 140737488351232) :
    Calls Try.prog 13 #[.float .f64 a, .float .f64 b, .slice s len cap] W fun e W' => e = .returned (.bool true) ∧ Below W.heap.size W W' := by
  have HA := Lib.hid ha
  have HB := Lib.hid hb
  clear ha hb
  by_cases hl : 200 < len
  · clear hrow
    go_enter Try.func13, Try.ntmps13
    go_wp2_with (go_at_call 43; refine (known_ok _).mono ?_; rintro e w' ⟨rfl, hb⟩)
    go_returns
    exact ⟨rfl, hb⟩
  · have hl' : len ≤ 200 := by omega
    have HR := Lib.hid hrow
    have HM := Lib.hid (best_bound 1 hrow)
    have HL := Lib.hid (best_bound (-1) hrow)
    have O1 := Lib.hid (fun w => order_any a b HA.out HB.out w)
    have O2 := Lib.hid (fun w => rorder_any a b HA.out HB.out w)
    have O3 := Lib.hid (fun w => same_any a b HA.out HB.out w)
    have O4 := Lib.hid (fun w => rsame_any a b HA.out HB.out w)
    have O5 := Lib.hid (fun w => rsame_self (bestN z 1 len) HM.out w)
    have O6 := Lib.hid (fun w => rsame_self (bestN z (-1) len) HL.out w)
    have M1 := Lib.hid (fun n => most_any s len cap z (W.drewN n) HR.out hl')
    have M2 := Lib.hid (fun n => rmost_any s len cap z (W.drewN n) HR.out hl')
    have L1 := Lib.hid (fun n => least_any s len cap z (W.drewN n) HR.out hl')
    have L2 := Lib.hid (fun n => rleast_any s len cap z (W.drewN n) HR.out hl')
    have M0 := Lib.hid (most_any s len cap z W HR.out hl')
    have M3 := Lib.hid (rmost_any s len cap z W HR.out hl')
    clear hrow
    generalize bestN z 1 len = m at *
    generalize bestN z (-1) len = l at *
    generalize decide (orderF a b = 0) = d at *
    generalize orderF a b = o at *
    go_enter Try.func13, Try.ntmps13
    go_wp2_with (first
      | (go_at_call 54; refine (O1.out _).mono ?_; rintro e w' ⟨rfl, rfl⟩)
      | (go_at_call 55; refine (O2.out _).mono ?_; rintro e w' ⟨rfl, rfl⟩)
      | (go_at_call 40; refine (O3.out _).mono ?_; rintro e w' ⟨rfl, rfl⟩)
      | (go_at_call 56; refine (M0.out).mono ?_; rintro e w' ⟨rfl, rfl⟩)
      | (go_at_call 57; refine (M3.out).mono ?_; rintro e w' ⟨rfl, n, rfl⟩)
      | (go_at_call 58; refine (L1.out _).mono ?_; rintro e w' ⟨rfl, rfl⟩)
      | (go_at_call 59; refine (L2.out _).mono ?_; rintro e w' ⟨rfl, n2, rfl⟩)
      | (go_at_call 52; first | (with_reducible refine (O4.out _).mono ?_; rintro e w' ⟨rfl, rfl⟩) | (with_reducible refine (O5.out _).mono ?_; rintro e w' ⟨rfl, rfl⟩) | (with_reducible refine (O6.out _).mono ?_; rintro e w' ⟨rfl, rfl⟩))
      | (go_at_call 43; refine (known_ok _).mono ?_; rintro e w' ⟨rfl, hb⟩))
    go_returns
    refine ⟨rfl, ?_⟩
    exact (below_drewN (Below.refl _ _) _).trans hb
end Go.Proofs.Ytplppmgecknhiaa.MeterN
