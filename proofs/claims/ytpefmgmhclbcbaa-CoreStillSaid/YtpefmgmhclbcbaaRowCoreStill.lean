/- The row of the statement CoreStill: for every input that its guards let in it returns true, and each argument reads as before. The walk is YtpefmgmhclbcbaaWalkCoreStill's. No condition beyond the row's own. -/
import Derived.Test.YtpefmgmhclbcbaaRows
import Derived.Test.YtpefmgmhclbcbaaWalkCoreStill
import Derived.Test.YtpefmgmhclbcbaaOpen
import Derived.WalkKit
import Derived.ProofKit
import Derived.OpenShut
import Derived.ShutString
import Derived.ChangeOld
import Derived.Below
import Derived.SizedLaws
import Derived.Laws.Cover2
import Derived.Carry
namespace Go.Proofs.Ytpefmgmhclbcbaa.coreStill
open Go.ChangeShapes Go.WideShapes Go.ChangeAt Go.RowKit Go.Proofs.Ytpefmgmhclbcbaa.Open
open Go.ChangeMaps (open_string shut_string)
set_option linter.unusedVariables false
theorem own : ownKnob Try.prog.godebug = none := by kernel_rfl
theorem laidOut : laidOutB Try.prog = true := by kernel_rfl
theorem fks0 : ∃ fs, Try.prog.underlying 48 = some (.struct fs) ∧ FKs Try.prog fs [.bool, .bool, .int .i64, .int .i64, .int .i64, .int .i64] ∧ Deep.oneCellFields Try.prog fs = true ∧ Try.prog.cellsOf 48 = fs.size :=
  ⟨_, Try.underlying48, ⟨rfl, by
    intro j k hj
    rcases j with _ | _ | _ | _ | _ | _ | j
    all_goals first
    | (simp at hj; done)
    | (simp at hj; subst hj; exact ⟨_, rfl, by first | (show Try.prog.underlying _ = _; kernel_rfl)⟩)⟩, by kernel_rfl, by kernel_rfl⟩
theorem fks1 : ∃ fs, Try.prog.underlying 50 = some (.struct fs) ∧ FKs Try.prog fs [.bool, .bool, .bool, .bool, .bool, .bool, .bool, .bool, .bool] ∧ Deep.oneCellFields Try.prog fs = true ∧ Try.prog.cellsOf 50 = fs.size :=
  ⟨_, Try.underlying50, ⟨rfl, by
    intro j k hj
    rcases j with _ | _ | _ | _ | _ | _ | _ | _ | _ | j
    all_goals first
    | (simp at hj; done)
    | (simp at hj; subst hj; exact ⟨_, rfl, by first | (show Try.prog.underlying _ = _; kernel_rfl)⟩)⟩, by kernel_rfl, by kernel_rfl⟩
set_option maxRecDepth 100000 in
theorem lifted (os : Os) (started : os.Started) (H : Type) (enc : TypeId × Value → H) :
    ReturnsInHanded {} Try.checked os 8 .any (Rows.coreStillSpec.pre6 enc Try.prog Try.f8 Rows.coreStillRow.domain false) (Rows.coreStillSpec.post enc Try.prog Try.f8 false true false false) := by
  refine returnsInHanded_of_change_sized (C := Try.checked) own started (by kernel_rfl) Try.func8
    (ChangeSpec.witness6 (enc := enc) (C := Try.checked) false ⟨#[], #[.agg #[.bool false, .bool false, .int .i64 0, .int .i64 0, .int .i64 0, .int .i64 0], .agg #[.bool false, .bool false, .bool false, .bool false, .bool false, .bool false, .bool false, .bool false, .bool false]], []⟩ 8 (by kernel_rfl) (by kernel_rfl) (by kernel_rfl) (by kernel_rfl)) ?_
  intro W base args ds gs before hval0 hW hcnd hsz0 _
  have hsz : (DataW.weightsEach Try.prog (Try.f8.params.toList ++ Rows.coreStillSpec.plain.varTypes Try.prog) (ds ++ gs)).all (· ≤ reachBytes) = true := hsz0
  have hval : ∀ (j : Nat) t v, Try.f8.params[j]? = some t → args[j]? = some v → Value.okWide Try.prog W .any base t v := hval0
  have hW' := hW
  obtain ⟨p, q, hA0, hV, rfl, hfz, hnd⟩ := hW
  have hA : DataW.TrodAll enc Try.prog W 0 (fun _ => true) true Try.f8.params.toList args.toList ds p := hA0
  rw [Try.params8] at hA hval hsz
  obtain ⟨v0, vs0, d0, ds0, p0, q0, hargs, rfl, rfl, h0, r0⟩ := trodAll_cons hA
  obtain ⟨v1, vs1, d1, ds1, p1, q1, rfl, rfl, rfl, h1, r1⟩ := trodAll_cons r0
  obtain ⟨rfl, rfl, rfl⟩ := trodAll_nil r1
  obtain rfl : args = #[v0, v1] := by cases args; simp_all
  obtain ⟨rfl, rfl⟩ := trodVars_none hV
  have k0 := h0
  have lt0 : ∀ x ∈ p0, x.block < W.heap.size := by obtain ⟨m, hm⟩ := k0; exact DataW.trod_lt m _ _ _ hm
  obtain ⟨fs0, e0, f0, o0, c0⟩ := fks0
  obtain ⟨V0, rfl, w0⟩ := open_agg f0 e0 o0 c0 (hval 0 48 v0 rfl rfl) h0
  have k1 := h1
  have lt1 : ∀ x ∈ p1, x.block < W.heap.size := by obtain ⟨m, hm⟩ := k1; exact DataW.trod_lt m _ _ _ hm
  obtain ⟨fs1, e1, f1, o1, c1⟩ := fks1
  obtain ⟨V1, rfl, w1⟩ := open_agg f1 e1 o1 c1 (hval 1 50 v1 rfl rfl) h1
  clear hA0 hval0 hsz0 hsz
  refine (WalkCoreStill.walk W V0 w0 V1 w1).mono fun e W' ⟨he, bel⟩ => ?_
  subst he
  exact ⟨_, rfl, _, _, _, [], _, [], hW', trodAll_mk1 (shut_bool Try.underlying4 _), (trodAll_cons_mk (Below.trod laidOut (by kernel_rfl) (of_decide_eq_true (by kernel_rfl)) k0 bel lt0) (trodAll_cons_mk (Below.trod laidOut (by kernel_rfl) (of_decide_eq_true (by kernel_rfl)) k1 bel lt1) trodAll_mk0)), rfl, bel.frame _, fun h => by cases h⟩
theorem over : Rows.coreStillRow.holds Try.pinned (OpenSpec.ofChange Rows.coreStillSpec) :=
  OpenClaim.holds_of_wide 8 Try.f8 rfl rfl rfl rfl rfl rfl rfl ⟨rfl, rfl, rfl, rfl, rfl⟩ rfl rfl rfl rfl rfl (by kernel_rfl) Try.func8 (by kernel_rfl)
    (of_decide_eq_true (by kernel_rfl)) (by unfold Func.isWrapper; first | (rw [if_pos (by decide +kernel)]; kernel_rfl) | (rw [if_neg (by decide +kernel)]; exact ⟨rfl, rfl⟩))
    (fun os started H enc _ => lifted os started H enc)
theorem proved : Rows.CoreStillSaid := over
#print axioms proved
end Go.Proofs.Ytpefmgmhclbcbaa.coreStill
namespace Go.Proofs.Ytpefmgmhclbcbaa
/-- The row, under a short name, for the claim. -/
theorem coreStill_holds : Rows.CoreStillSaid := coreStill.proved
end Go.Proofs.Ytpefmgmhclbcbaa
