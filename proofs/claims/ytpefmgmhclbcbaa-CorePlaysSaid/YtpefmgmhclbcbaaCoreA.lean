/- Contracts of the functions of layer 27 that hold no table. -/
import Derived.Test.YtpefmgmhclbcbaaProg
import Derived.WalkKit
import Derived.Handy
import Derived.WalkLawsBesides
import Derived.WalkSpells
import Derived.Below
import Derived.BigQuiet
import Derived.Deep.QuietTactic
import Derived.Lib.Hide
import Derived.Outline
namespace Go.Proofs.Ytpefmgmhclbcbaa.CoreA
open Go.RowKit
set_option linter.unusedVariables false

def wants (s h t a c i m k d : Bool) : Int :=
  if s then 2 else if t then 3 else if h || !a then 0 else if c then 4 else if i then 5 else if m then 6 else if k then 7 else if d then 8 else 9

theorem idx0 (x0 x1 x2 x3 x4 x5 x6 x7 : Bool) (w : World) : (Instr.index 121 (.agg #[.bool x0, .int .i64 2, .bool x1, .int .i64 3, .bool x2, .int .i64 0, .bool x3, .int .i64 4, .bool x4, .int .i64 5, .bool x5, .int .i64 6, .bool x6, .int .i64 7, .bool x7, .int .i64 8]) (.int .i64 0)).run Try.prog w = .ok (.agg #[.bool x0, .int .i64 2]) w := by kernel_rfl
theorem idx1 (x0 x1 x2 x3 x4 x5 x6 x7 : Bool) (w : World) : (Instr.index 121 (.agg #[.bool x0, .int .i64 2, .bool x1, .int .i64 3, .bool x2, .int .i64 0, .bool x3, .int .i64 4, .bool x4, .int .i64 5, .bool x5, .int .i64 6, .bool x6, .int .i64 7, .bool x7, .int .i64 8]) (.int .i64 1)).run Try.prog w = .ok (.agg #[.bool x1, .int .i64 3]) w := by kernel_rfl
theorem idx2 (x0 x1 x2 x3 x4 x5 x6 x7 : Bool) (w : World) : (Instr.index 121 (.agg #[.bool x0, .int .i64 2, .bool x1, .int .i64 3, .bool x2, .int .i64 0, .bool x3, .int .i64 4, .bool x4, .int .i64 5, .bool x5, .int .i64 6, .bool x6, .int .i64 7, .bool x7, .int .i64 8]) (.int .i64 2)).run Try.prog w = .ok (.agg #[.bool x2, .int .i64 0]) w := by kernel_rfl
theorem idx3 (x0 x1 x2 x3 x4 x5 x6 x7 : Bool) (w : World) : (Instr.index 121 (.agg #[.bool x0, .int .i64 2, .bool x1, .int .i64 3, .bool x2, .int .i64 0, .bool x3, .int .i64 4, .bool x4, .int .i64 5, .bool x5, .int .i64 6, .bool x6, .int .i64 7, .bool x7, .int .i64 8]) (.int .i64 3)).run Try.prog w = .ok (.agg #[.bool x3, .int .i64 4]) w := by kernel_rfl
theorem idx4 (x0 x1 x2 x3 x4 x5 x6 x7 : Bool) (w : World) : (Instr.index 121 (.agg #[.bool x0, .int .i64 2, .bool x1, .int .i64 3, .bool x2, .int .i64 0, .bool x3, .int .i64 4, .bool x4, .int .i64 5, .bool x5, .int .i64 6, .bool x6, .int .i64 7, .bool x7, .int .i64 8]) (.int .i64 4)).run Try.prog w = .ok (.agg #[.bool x4, .int .i64 5]) w := by kernel_rfl
theorem idx5 (x0 x1 x2 x3 x4 x5 x6 x7 : Bool) (w : World) : (Instr.index 121 (.agg #[.bool x0, .int .i64 2, .bool x1, .int .i64 3, .bool x2, .int .i64 0, .bool x3, .int .i64 4, .bool x4, .int .i64 5, .bool x5, .int .i64 6, .bool x6, .int .i64 7, .bool x7, .int .i64 8]) (.int .i64 5)).run Try.prog w = .ok (.agg #[.bool x5, .int .i64 6]) w := by kernel_rfl
theorem idx6 (x0 x1 x2 x3 x4 x5 x6 x7 : Bool) (w : World) : (Instr.index 121 (.agg #[.bool x0, .int .i64 2, .bool x1, .int .i64 3, .bool x2, .int .i64 0, .bool x3, .int .i64 4, .bool x4, .int .i64 5, .bool x5, .int .i64 6, .bool x6, .int .i64 7, .bool x7, .int .i64 8]) (.int .i64 6)).run Try.prog w = .ok (.agg #[.bool x6, .int .i64 7]) w := by kernel_rfl
theorem idx7 (x0 x1 x2 x3 x4 x5 x6 x7 : Bool) (w : World) : (Instr.index 121 (.agg #[.bool x0, .int .i64 2, .bool x1, .int .i64 3, .bool x2, .int .i64 0, .bool x3, .int .i64 4, .bool x4, .int .i64 5, .bool x5, .int .i64 6, .bool x6, .int .i64 7, .bool x7, .int .i64 8]) (.int .i64 7)).run Try.prog w = .ok (.agg #[.bool x7, .int .i64 8]) w := by kernel_rfl
attribute [local go_sem] idx0 idx1 idx2 idx3 idx4 idx5 idx6 idx7
set_option maxRecDepth 100000 in
set_option maxHeartbeats 1000000 in
theorem wants_any (s h t a c i m k d : Bool) (w : World) :
    Calls Try.prog 62 #[.agg #[.bool s, .bool h, .bool t, .bool a, .bool c, .bool i, .bool m, .bool k, .bool d]] w fun e w' => e = .returned (.int .i64 (wants s h t a c i m k d)) ∧ Below w.heap.size w w' := by
  cases h <;> cases a
  all_goals
    go_enter Try.func62, Try.ntmps62
    go_wp2
    go_rounds 9
    all_goals
      go_returns
      exact ⟨by simp [wants, *], by go_grown⟩

theorem bcell {W w1 : World} (hb : Below W.heap.size W w1) : (∀ b o, b < W.heap.size → w1.cell? ⟨b, o, none⟩ = W.cell? ⟨b, o, none⟩) ∧ (∀ b o, b < W.heap.size → w1.frozen? ⟨b, o, none⟩ = W.frozen? ⟨b, o, none⟩) :=
  ⟨fun b o h => hb.cell (p := ⟨b, o, none⟩) h, fun b o h => hb.frozen (p := ⟨b, o, none⟩) h⟩

end Go.Proofs.Ytpefmgmhclbcbaa.CoreA
