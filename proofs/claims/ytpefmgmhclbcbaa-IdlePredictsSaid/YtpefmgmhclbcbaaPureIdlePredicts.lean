/- For every two ticks and every bool, the statement IdlePredicts of layer 23 returns true. No condition. -/
import Derived.Test.YtpefmgmhclbcbaaPIdlePredictsx3
namespace Go.Proofs.Ytpefmgmhclbcbaa.Pure
open Go.RowKit Go.Proofs.Ytpefmgmhclbcbaa.PIdlePredicts Go.Proofs.YtpefmgmhclbcbaaW.PrintWords Go.Proofs.YtpefmgmhclbcbaaW.PrintLast

theorem known_20 : davitlaw23_known.f 20 = some true := by decide +kernel

theorem bounds {a : Int} (h : (Lit.int .i64 a).wf = true) : -9223372036854775808 ≤ a ∧ a ≤ 9223372036854775807 := by
  simp only [Lit.wf, Bool.and_eq_true, decide_eq_true_eq] at h
  exact h

theorem IdlePredicts : davitlaw23_IdlePredicts.Pure := by
  intro a b c h0 h1
  have h0 := bounds h0
  have h1 := bounds h1
  refine ⟨20, ?_⟩
  unfold davitlaw23_IdlePredicts.f
  unfold idle_Predict.f davitref23_Predict.f
  rw [known_20]
  cases c with
  | false => simp
  | true =>
    by_cases ha : a < 0
    · simp [ha, davitref23_Predict.j0]
    · by_cases hb : b ≤ a
      · simp [ha, hb, davitref23_Predict.j0]
      · have e : wrap64 (b - a) = b - a := by unfold wrap64; omega
        by_cases hm : b - a > 1073741824
        · have hm' : mn (b - a) 1073741824 = 1073741824 := by unfold mn; rw [if_pos (by omega)]
          simp [ha, hb, davitref23_Predict.j0, e, hm, hm']
        · have hm' : mn (b - a) 1073741824 = b - a := by unfold mn; rw [if_neg (by omega)]
          have hp : a ≤ b := by omega
          have hq : b - a ≤ 1073741824 := by omega
          simp [ha, hb, davitref23_Predict.j0, e, hm, hm', hp, hq]

end Go.Proofs.Ytpefmgmhclbcbaa.Pure
