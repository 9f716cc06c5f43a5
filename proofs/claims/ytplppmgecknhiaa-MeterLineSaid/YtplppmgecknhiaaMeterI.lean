/- The walk of MeterRates. -/
import Derived.Test.YtplppmgecknhiaaMeterH
namespace Go.Proofs.Ytplppmgecknhiaa.MeterI
open Go.RowKit Go.Proofs.Ytplppmgecknhiaa.MeterA Go.Proofs.Ytplppmgecknhiaa.MeterB Go.Proofs.Ytplppmgecknhiaa.MeterC Go.Proofs.Ytplppmgecknhiaa.MeterD Go.Proofs.Ytplppmgecknhiaa.MeterE Go.Proofs.Ytplppmgecknhiaa.MeterH
set_option linter.unusedVariables false
set_option linter.unusedSimpArgs false
theorem inf_pos (w : World) : Calls Try.prog 73 #[.int .i64 1] w fun e w' => e = .returned (.float .f64 9218868437227405312) ∧ w = w' := by
  have hx : ∀ w : World, (callFunc 81 #[.int .u64 9218868437227405312]).run Try.prog w = .ok (.value (.float .f64 9218868437227405312)) w := fun w => run_frombits _ w
  go_enter Try.func73, Try.ntmps73
  go_wp2
  go_returns
  exact ⟨rfl, rfl⟩
theorem inf_neg (w : World) : Calls Try.prog 73 #[.int .i64 (-1)] w fun e w' => e = .returned (.float .f64 18442240474082181120) ∧ w = w' := by
  have hx : ∀ w : World, (callFunc 81 #[.int .u64 18442240474082181120]).run Try.prog w = .ok (.value (.float .f64 18442240474082181120)) w := fun w => run_frombits _ w
  go_enter Try.func73, Try.ntmps73
  go_wp2
  go_returns
  exact ⟨rfl, rfl⟩
end Go.Proofs.Ytplppmgecknhiaa.MeterI
