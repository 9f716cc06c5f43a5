/- known of layer 25: its methods at the meter of two cores. -/
import Derived.Test.YtplppmgecknhiaaMeterF
namespace Go.Proofs.Ytplppmgecknhiaa.MeterG
open Go.RowKit Go.Proofs.Ytplppmgecknhiaa.MeterA Go.Proofs.Ytplppmgecknhiaa.MeterB Go.Proofs.Ytplppmgecknhiaa.MeterC Go.Proofs.Ytplppmgecknhiaa.MeterD Go.Proofs.Ytplppmgecknhiaa.MeterE Go.Proofs.Ytplppmgecknhiaa.MeterF Go.Proofs.Ytplppmgecknhiaa.Frame
set_option linter.unusedVariables false
set_option linter.unusedSimpArgs false
set_option maxRecDepth 100000 in
theorem work2 (w : World) (tb cb : Nat) (h : MetS w tb cb 0 0 0 0 0 0 0 0 0 0) : Calls Try.prog 35 #[.pointer (some ⟨tb, 0, none⟩), .int .i64 0, .int .i64 3, .int .i64 10] w fun e w' => e = .returned (.int .i64 0) ∧ MetS w' tb cb 3 0 0 0 0 0 0 0 0 30 ∧ Ch (· = cb) w w' := by
  have H := Lib.hid h
  clear h
  go_enter Try.func35, Try.ntmps35
  go_wp2_with fail
  refine (find2 w tb cb H.out.hd).mono ?_
  rintro e w' ⟨rfl, rfl⟩
  go_wp2_with fail
  refine (pay1 w tb cb H.out).mono ?_
  rintro e w' ⟨rfl, k1, k2⟩
  have K1 := Lib.hid k1
  have K2 := Lib.hid k2
  clear k1 k2
  go_wp2
  go_returns
  exact ⟨rfl, K1.out, K2.out⟩
set_option maxRecDepth 100000 in
theorem rest2 (w : World) (tb cb : Nat) (h : MetS w tb cb 3 0 0 0 0 0 0 0 0 30) : Calls Try.prog 36 #[.pointer (some ⟨tb, 0, none⟩), .int .i64 0, .int .i64 1, .int .i64 1, .int .i64 2] w fun e w' => e = .returned (.int .i64 0) ∧ MetS w' tb cb 3 0 1 0 0 0 0 0 0 32 ∧ Ch (· = cb) w w' := by
  have H := Lib.hid h
  clear h
  go_enter Try.func36, Try.ntmps36
  go_wp2_with fail
  refine (find2 w tb cb H.out.hd).mono ?_
  rintro e w' ⟨rfl, rfl⟩
  go_wp2_with fail
  refine (pay2 w tb cb H.out).mono ?_
  rintro e w' ⟨rfl, k1, k2⟩
  have K1 := Lib.hid k1
  have K2 := Lib.hid k2
  clear k1 k2
  go_wp2
  go_returns
  exact ⟨rfl, K1.out, K2.out⟩
set_option maxRecDepth 100000 in
theorem energy2 (w : World) (tb cb : Nat) (h : MetS w tb cb 3 0 1 0 0 0 0 0 0 32) : Calls Try.prog 37 #[.pointer (some ⟨tb, 0, none⟩), .int .i64 0] w fun e w' => e = .returned (.int .i64 32) ∧ w = w' := by
  have H := Lib.hid h
  have c9 := h.c9
  clear h
  go_enter Try.func37, Try.ntmps37
  go_wp2_with fail
  refine (find2 w tb cb H.out.hd).mono ?_
  rintro e w' ⟨rfl, rfl⟩
  go_wp2
  go_returns
  exact ⟨rfl, rfl⟩
set_option maxRecDepth 100000 in
theorem rested2 (w : World) (tb cb : Nat) (h : MetS w tb cb 3 0 1 0 0 0 0 0 0 32) : Calls Try.prog 39 #[.pointer (some ⟨tb, 0, none⟩), .int .i64 0, .int .i64 1] w fun e w' => e = .returned (.int .i64 1) ∧ w = w' := by
  have H := Lib.hid h
  have c2 := h.c2
  clear h
  go_enter Try.func39, Try.ntmps39
  go_wp2_with fail
  refine (find2 w tb cb H.out.hd).mono ?_
  rintro e w' ⟨rfl, rfl⟩
  go_wp2
  go_returns
  exact ⟨rfl, rfl⟩
set_option maxRecDepth 100000 in
theorem ticks2 (w : World) (tb cb : Nat) (h : MetS w tb cb 3 0 1 0 0 0 0 0 0 32) : Calls Try.prog 38 #[.pointer (some ⟨tb, 0, none⟩), .int .i64 0] w fun e w' => e = .returned (.int .i64 4) ∧ w = w' := by
  have H := Lib.hid h
  obtain ⟨hd, c0, c1, c2, c3, c4, c5, c6, c7, c8, c9, fz, ne, lt1, lt2⟩ := h
  clear c9 fz ne hd
  have ix : ∀ (j v : Int), (j, v) ∈ [((0 : Int), (0 : Int)), (1, 1), (2, 0), (3, 0), (4, 0), (5, 0), (6, 0), (7, 0)] → ∀ w : World, (Instr.index 87 (.agg #[.int .i64 0, .int .i64 1, .int .i64 0, .int .i64 0, .int .i64 0, .int .i64 0, .int .i64 0, .int .i64 0]) (.int .i64 j)).run Try.prog w = .ok (.int .i64 v) w := by
    intro j v hj w
    simp only [List.mem_cons, List.not_mem_nil, or_false, Prod.mk.injEq] at hj
    rcases hj with ⟨rfl, rfl⟩ | ⟨rfl, rfl⟩ | ⟨rfl, rfl⟩ | ⟨rfl, rfl⟩ | ⟨rfl, rfl⟩ | ⟨rfl, rfl⟩ | ⟨rfl, rfl⟩ | ⟨rfl, rfl⟩ <;> kernel_rfl
  have i0 := ix 0 0 (by simp)
  have i1 := ix 1 1 (by simp)
  have i2 := ix 2 0 (by simp)
  have i3 := ix 3 0 (by simp)
  have i4 := ix 4 0 (by simp)
  have i5 := ix 5 0 (by simp)
  have i6 := ix 6 0 (by simp)
  have i7 := ix 7 0 (by simp)
  clear ix
  go_enter Try.func38, Try.ntmps38
  go_wp2_with fail
  refine (find2 w tb cb H.out.hd).mono ?_
  rintro e w' ⟨rfl, rfl⟩
  go_wp2_with fail
  refine wp_loop_rounds 9 ?_
  iterate 9 (rw [rounds_succ]; go_wp2_with fail)
  go_returns
  exact ⟨rfl, rfl⟩
end Go.Proofs.Ytplppmgecknhiaa.MeterG
