/- known of layer 25, and the walk of MeterNil. -/
import Derived.Test.YtplppmgecknhiaaMeterG
import Derived.Test.YtplppmgecknhiaaOpen
import Derived.Laws.FloatArith
namespace Go.Proofs.Ytplppmgecknhiaa.MeterH
open Go.RowKit Go.Proofs.Ytplppmgecknhiaa.MeterA Go.Proofs.Ytplppmgecknhiaa.MeterB Go.Proofs.Ytplppmgecknhiaa.MeterC Go.Proofs.Ytplppmgecknhiaa.MeterD Go.Proofs.Ytplppmgecknhiaa.MeterE Go.Proofs.Ytplppmgecknhiaa.MeterF Go.Proofs.Ytplppmgecknhiaa.MeterG Go.Proofs.Ytplppmgecknhiaa.Frame
set_option linter.unusedVariables false
set_option linter.unusedSimpArgs false
theorem rate_32_4 (w : World) : Calls Try.prog 34 #[.int .i64 32, .int .i64 4] w fun e w' => e = .returned (.float .f64 4620693217682128896) ∧ w = w' := by
  have x1 : floatBits .quo .f64 (floatOfInt .f64 32) (floatOfInt .f64 4) = some 4620693217682128896 := by kernel_rfl
  have x2 := fun w => run_float_arith (P := Try.prog) (w := w) .quo 42 .f64 _ _ _ x1
  go_enter Try.func34, Try.ntmps34
  go_wp2
  go_returns
  exact ⟨rfl, rfl⟩
theorem rate_1_4 (w : World) : Calls Try.prog 34 #[.int .i64 1, .int .i64 4] w fun e w' => e = .returned (.float .f64 4598175219545276416) ∧ w = w' := by
  have x1 : floatBits .quo .f64 (floatOfInt .f64 1) (floatOfInt .f64 4) = some 4598175219545276416 := by kernel_rfl
  have x2 := fun w => run_float_arith (P := Try.prog) (w := w) .quo 42 .f64 _ _ _ x1
  go_enter Try.func34, Try.ntmps34
  go_wp2
  go_returns
  exact ⟨rfl, rfl⟩
theorem rate_0_m3 (w : World) : Calls Try.prog 34 #[.int .i64 0, .int .i64 (-3)] w fun e w' => e = .returned (.float .f64 9223372036854775808) ∧ w = w' := by
  have x1 : floatBits .quo .f64 (floatOfInt .f64 0) (floatOfInt .f64 (-3)) = some 9223372036854775808 := by kernel_rfl
  have x2 := fun w => run_float_arith (P := Try.prog) (w := w) .quo 42 .f64 _ _ _ x1
  go_enter Try.func34, Try.ntmps34
  go_wp2
  go_returns
  exact ⟨rfl, rfl⟩
theorem rate_1_0 (w : World) : Calls Try.prog 34 #[.int .i64 1, .int .i64 0] w fun e w' => e = .returned (.float .f64 9218868437227405312) ∧ w = w' := by
  have x1 : floatBits .quo .f64 (floatOfInt .f64 1) (floatOfInt .f64 0) = some 9218868437227405312 := by kernel_rfl
  have x2 := fun w => run_float_arith (P := Try.prog) (w := w) .quo 42 .f64 _ _ _ x1
  go_enter Try.func34, Try.ntmps34
  go_wp2
  go_returns
  exact ⟨rfl, rfl⟩
theorem average2 (w : World) (tb cb : Nat) (h : MetS w tb cb 3 0 1 0 0 0 0 0 0 32) : Calls Try.prog 41 #[.pointer (some ⟨tb, 0, none⟩), .int .i64 0] w fun e w' => e = .returned (.float .f64 4620693217682128896) ∧ w = w' := by
  have H := Lib.hid h
  clear h
  go_enter Try.func41, Try.ntmps41
  go_wp2_with (first
    | (go_at_call 37; refine (energy2 w tb cb H.out).mono ?_; rintro e w' ⟨rfl, rfl⟩)
    | (go_at_call 38; refine (ticks2 w tb cb H.out).mono ?_; rintro e w' ⟨rfl, rfl⟩)
    | (go_at_call 34; refine (rate_32_4 _).mono ?_; rintro e w' ⟨rfl, rfl⟩))
  go_returns
  exact ⟨rfl, rfl⟩
theorem share2 (w : World) (tb cb : Nat) (h : MetS w tb cb 3 0 1 0 0 0 0 0 0 32) : Calls Try.prog 42 #[.pointer (some ⟨tb, 0, none⟩), .int .i64 0, .int .i64 1] w fun e w' => e = .returned (.float .f64 4598175219545276416) ∧ w = w' := by
  have H := Lib.hid h
  clear h
  go_enter Try.func42, Try.ntmps42
  go_wp2_with (first
    | (go_at_call 39; refine (rested2 w tb cb H.out).mono ?_; rintro e w' ⟨rfl, rfl⟩)
    | (go_at_call 38; refine (ticks2 w tb cb H.out).mono ?_; rintro e w' ⟨rfl, rfl⟩)
    | (go_at_call 34; refine (rate_1_4 _).mono ?_; rintro e w' ⟨rfl, rfl⟩))
  go_returns
  exact ⟨rfl, rfl⟩
theorem rsame_self (a : Nat) (ha : a < 18446744073709551616) (w : World) : Calls Try.prog 52 #[.float .f64 a, .float .f64 a] w fun e w' => e = .returned (.bool true) ∧ w = w' := by
  have := rsame_any a a ha ha w
  rw [orderF, orderK_eq rfl] at this
  exact this
theorem same_self (a : Nat) (ha : a < 18446744073709551616) (w : World) : Calls Try.prog 40 #[.float .f64 a, .float .f64 a] w fun e w' => e = .returned (.bool true) ∧ w = w' := by
  have := same_any a a ha ha w
  rw [orderF, orderK_eq rfl] at this
  exact this
theorem order_c1 (w : World) : Calls Try.prog 54 #[.float .f64 9223372036854775808, .float .f64 0] w fun e w' => e = .returned (.int .i64 (-1)) ∧ w = w' := by
  have := order_any 9223372036854775808 0 (by omega) (by omega) w
  rw [show orderF 9223372036854775808 0 = -1 from by decide] at this
  exact this
theorem order_c2 (w : World) : Calls Try.prog 54 #[.float .f64 9218868437227405312, .float .f64 9221120237041090561] w fun e w' => e = .returned (.int .i64 (-1)) ∧ w = w' := by
  have := order_any 9218868437227405312 9221120237041090561 (by omega) (by omega) w
  rw [show orderF 9218868437227405312 9221120237041090561 = -1 from by decide] at this
  exact this
set_option maxRecDepth 100000 in
set_option maxHeartbeats 1000000 in
theorem known_ok (w : World) : Calls Try.prog 43 #[] w fun e w' => e = .returned (.bool true) ∧ Below w.heap.size w w' := by
  go_enter Try.func43, Try.ntmps43
  go_wp2_with fail
  refine (new2 w).mono ?_
  rintro e w1 ⟨tb, cb, rfl, ht, hc, h1, b1⟩
  have H1 := Lib.hid h1
  have B1 := Lib.hid b1
  clear h1 b1
  go_wp2_with fail
  refine (work2 w1 tb cb H1.out).mono ?_
  rintro e w2 ⟨rfl, h2, k2⟩
  have H2 := Lib.hid h2
  have B2 := Lib.hid (B1.out.trans (k2.below B1.out.size (fun k hk e => by omega)))
  clear h2 k2
  go_wp2_with fail
  refine (rest2 w2 tb cb H2.out).mono ?_
  rintro e w3 ⟨rfl, h3, k3⟩
  have H3 := Lib.hid h3
  have B3 := Lib.hid (B2.out.trans (k3.below B2.out.size (fun k hk e => by omega)))
  clear h3 k3
  go_wp2_with (first
    | (go_at_call 37; refine (energy2 w3 tb cb H3.out).mono ?_; rintro e w' ⟨rfl, rfl⟩)
    | (go_at_call 38; refine (ticks2 w3 tb cb H3.out).mono ?_; rintro e w' ⟨rfl, rfl⟩)
    | (go_at_call 41; refine (average2 w3 tb cb H3.out).mono ?_; rintro e w' ⟨rfl, rfl⟩)
    | (go_at_call 42; refine (share2 w3 tb cb H3.out).mono ?_; rintro e w' ⟨rfl, rfl⟩)
    | (go_at_call 52; refine (rsame_self _ (by omega) _).mono ?_; rintro e w' ⟨rfl, rfl⟩)
    | (go_at_call 34; first | (with_reducible refine (rate_0_m3 _).mono ?_; rintro e w' ⟨rfl, rfl⟩) | (with_reducible refine (rate_1_0 _).mono ?_; rintro e w' ⟨rfl, rfl⟩) | (with_reducible refine (rate_00 _).mono ?_; rintro e w' ⟨rfl, rfl⟩))
    | (go_at_call 54; first | (with_reducible refine (order_c1 _).mono ?_; rintro e w' ⟨rfl, rfl⟩) | (with_reducible refine (order_c2 _).mono ?_; rintro e w' ⟨rfl, rfl⟩)))
  go_returns
  exact ⟨rfl, B3.out⟩
set_option maxRecDepth 100000 in
set_option maxHeartbeats 1000000 in
theorem nil_walk (W : World) (i : Int) (w1 : (Lit.int .i64 i).wf = true) (n : Int) (w2 : (Lit.int .i64 n).wf = true) : Calls Try.prog 8 #[.int .i64 i, .int .i64 n] W fun e W' => e = .returned (.bool true) ∧ Below W.heap.size W W' := by
  clear w1 w2
  go_enter Try.func8, Try.ntmps8
  go_wp2_with (first
    | (go_at_call 34; refine (rate_00 _).mono ?_; rintro e w' ⟨rfl, rfl⟩)
    | (go_at_call 35; refine (nil_work _ _ _ _).mono ?_; rintro e w' ⟨rfl, rfl⟩)
    | (go_at_call 36; refine (nil_rest _ _ _ _ _).mono ?_; rintro e w' ⟨rfl, rfl⟩)
    | (go_at_call 37; refine (nil_energy _ _).mono ?_; rintro e w' ⟨rfl, rfl⟩)
    | (go_at_call 38; refine (nil_ticks _ _).mono ?_; rintro e w' ⟨rfl, rfl⟩)
    | (go_at_call 39; refine (nil_rested _ _ _).mono ?_; rintro e w' ⟨rfl, rfl⟩)
    | (go_at_call 41; refine (nil_average _ _).mono ?_; rintro e w' ⟨rfl, rfl⟩)
    | (go_at_call 42; refine (nil_share _ _ _).mono ?_; rintro e w' ⟨rfl, rfl⟩)
    | (go_at_call 40; refine (same_self _ (by omega) _).mono ?_; rintro e w' ⟨rfl, rfl⟩)
    | (go_at_call 43; refine (known_ok _).mono ?_; rintro e w' ⟨rfl, hb⟩))
  go_returns
  exact ⟨rfl, hb⟩
end Go.Proofs.Ytplppmgecknhiaa.MeterH
