/- Contracts of core.Next, of the document's Next, and of the law's conversions. -/
import Derived.Test.YtpefmgmhclbcbaaProg
import Derived.Test.YtpefmgmhclbcbaaCoreA
import Derived.WalkKit
import Derived.Handy
import Derived.WalkLawsBesides
import Derived.WalkSpells
import Derived.Below
import Derived.BigQuiet
import Derived.Deep.QuietTactic
import Derived.Lib.Hide
import Derived.Outline
namespace Go.Proofs.Ytpefmgmhclbcbaa.CoreB
open Go.RowKit Go.Proofs.Ytpefmgmhclbcbaa.CoreA
set_option linter.unusedVariables false
def next (p idle : Bool) (what : Int) : Int := if !p then 0 else if !idle then what else if what = 0 ∨ what = 9 then 0 else 1
set_option maxRecDepth 100000 in
set_option maxHeartbeats 1000000 in
theorem next_any (p idle : Bool) (way since steps busy : Int) (s h t a c i m k d : Bool) (w : World) :
    Calls Try.prog 26 #[.agg #[.bool p, .bool idle, .int .i64 way, .int .i64 since, .int .i64 steps, .int .i64 busy], .agg #[.bool s, .bool h, .bool t, .bool a, .bool c, .bool i, .bool m, .bool k, .bool d]] w
      fun e w' => e = .returned (.int .i64 (next p idle (wants s h t a c i m k d))) ∧ Below w.heap.size w w' := by
  go_enter Try.func26, Try.ntmps26
  go_wp2_with fail
  refine (wants_any _ _ _ _ _ _ _ _ _ _).mono ?_
  rintro e w1 ⟨rfl, hb⟩
  obtain ⟨hc, hf⟩ := bcell hb
  generalize hx : wants s h t a c i m k d = x
  have HX := Lib.hid hx
  clear hx
  have hB : Below w.heap.size w w1 := (((Below.refl _ _).alloc (Nat.le_refl _) _).alloc (by simp only [World.size_alloc]; omega) _).trans (hb.mono (by simp only [World.size_alloc]; omega))
  have hcase : x = 0 ∨ x = 9 ∨ ((x == 0) = false ∧ (x == 9) = false) := by simp only [beq_eq_false_iff_ne]; omega
  rcases hcase with rfl | rfl | ⟨h0, h9⟩
  all_goals
    cases p <;> cases idle
    all_goals
      go_wp2
      go_returns
      exact ⟨by rw [HX.out]; simp [next] <;> exact ⟨by simpa using h0, by simpa using h9⟩, by go_grown⟩


def rwants (s h t a c i m k d : Bool) : Int := wants s h t a c i m k d
set_option maxRecDepth 100000 in
set_option maxHeartbeats 1000000 in
theorem rwants_any (s h t a c i m k d : Bool) (w : World) :
    Calls Try.prog 63 #[.agg #[.bool s, .bool h, .bool t, .bool a, .bool c, .bool i, .bool m, .bool k, .bool d]] w fun e w' => e = .returned (.int .i64 (wants s h t a c i m k d)) ∧ Below w.heap.size w w' := by
  cases h <;> cases a
  all_goals
    go_enter Try.func63, Try.ntmps63
    go_wp2
    all_goals
      go_returns
      exact ⟨by simp [wants, *], by go_grown⟩
set_option maxRecDepth 100000 in
set_option maxHeartbeats 1000000 in
theorem rnext_any (p idle : Bool) (way since steps busy : Int) (s h t a c i m k d : Bool) (w : World) :
    Calls Try.prog 29 #[.agg #[.bool p, .bool idle, .int .i64 way, .int .i64 since, .int .i64 steps, .int .i64 busy], .agg #[.bool s, .bool h, .bool t, .bool a, .bool c, .bool i, .bool m, .bool k, .bool d]] w
      fun e w' => e = .returned (.int .i64 (next p idle (wants s h t a c i m k d))) ∧ Below w.heap.size w w' := by
  cases p with
  | false =>
    go_enter Try.func29, Try.ntmps29
    go_wp2
    go_returns
    exact ⟨by simp [next], by go_grown⟩
  | true =>
    go_enter Try.func29, Try.ntmps29
    go_wp2_with fail
    refine (rwants_any _ _ _ _ _ _ _ _ _ _).mono ?_
    rintro e w1 ⟨rfl, hb⟩
    obtain ⟨hc, hf⟩ := bcell hb
    generalize hx : wants s h t a c i m k d = x
    have HX := Lib.hid hx
    clear hx
    have hB : Below w.heap.size w w1 := (((Below.refl _ _).alloc (Nat.le_refl _) _).alloc (by simp only [World.size_alloc]; omega) _).trans (hb.mono (by simp only [World.size_alloc]; omega))
    have hcase : x = 0 ∨ x = 9 ∨ ((x == 0) = false ∧ (x == 9) = false) := by simp only [beq_eq_false_iff_ne]; omega
    rcases hcase with rfl | rfl | ⟨h0, h9⟩
    all_goals
      cases idle
      all_goals
        go_wp2
        go_returns
        exact ⟨by rw [HX.out]; simp [next] <;> exact ⟨by simpa using h0, by simpa using h9⟩, by go_grown⟩
set_option maxRecDepth 100000 in
theorem cores_any (p idle : Bool) (way since steps busy : Int) (w : World) :
    Calls Try.prog 27 #[.agg #[.bool p, .bool idle, .int .i64 way, .int .i64 since, .int .i64 steps, .int .i64 busy]] w
      fun e w' => e = .returned (.agg #[.bool p, .bool idle, .int .i64 way, .int .i64 since, .int .i64 steps, .int .i64 busy]) ∧ Below w.heap.size w w' := by
  go_enter Try.func27, Try.ntmps27
  go_wp2
  go_returns
  exact ⟨rfl, by go_grown⟩
set_option maxRecDepth 100000 in
theorem given_any (s h t a c i m k d : Bool) (w : World) :
    Calls Try.prog 28 #[.agg #[.bool s, .bool h, .bool t, .bool a, .bool c, .bool i, .bool m, .bool k, .bool d]] w
      fun e w' => e = .returned (.agg #[.bool s, .bool h, .bool t, .bool a, .bool c, .bool i, .bool m, .bool k, .bool d]) ∧ Below w.heap.size w w' := by
  go_enter Try.func28, Try.ntmps28
  go_wp2
  go_returns
  exact ⟨rfl, by go_grown⟩

end Go.Proofs.Ytpefmgmhclbcbaa.CoreB
