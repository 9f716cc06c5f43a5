/- The row of the statement CorePlays: for every input that its guards let in it returns true, and each argument reads as before. The walk is YtpefmgmhclbcbaaWalkCorePlays's. No condition beyond the row's own. -/
import Derived.Test.YtpefmgmhclbcbaaRows
import Derived.Test.YtpefmgmhclbcbaaWalkCorePlays
import Derived.Test.YtpefmgmhclbcbaaOpen
import Derived.WalkKit
import Derived.ProofKit
import Derived.OpenShut
import Derived.ShutString
import Derived.ChangeOld
import Derived.Below
import Derived.SizedLaws
import Derived.Laws.Cover2
import Derived.Carry
namespace Go.Proofs.Ytpefmgmhclbcbaa.corePlays
open Go.ChangeShapes Go.WideShapes Go.ChangeAt Go.RowKit Go.Proofs.Ytpefmgmhclbcbaa.Open
open Go.ChangeMaps (open_string shut_string)
set_option linter.unusedVariables false
theorem own : ownKnob Try.prog.godebug = none := by kernel_rfl
theorem laidOut : laidOutB Try.prog = true := by kernel_rfl
theorem fks1 : ∃ fs, Try.prog.underlying 74 = some (.struct fs) ∧ FKs Try.prog fs [.int .i64, .int .i64, .bool, .int .i64, .int .i64] ∧ Deep.oneCellFields Try.prog fs = true ∧ Try.prog.cellsOf 74 = fs.size :=
  ⟨_, Try.underlying74, ⟨rfl, by
    intro j k hj
    rcases j with _ | _ | _ | _ | _ | j
    all_goals first
    | (simp at hj; done)
    | (simp at hj; subst hj; exact ⟨_, rfl, by first | (show Try.prog.underlying _ = _; kernel_rfl)⟩)⟩, by kernel_rfl, by kernel_rfl⟩
set_option maxRecDepth 100000 in
theorem lifted (os : Os) (started : os.Started) (H : Type) (enc : TypeId × Value → H) :
    ReturnsInHanded {} Try.checked os 11 .any (Rows.corePlaysSpec.pre6 enc Try.prog Try.f11 Rows.corePlaysRow.domain false) (Rows.corePlaysSpec.post enc Try.prog Try.f11 false true false false) := by
  refine returnsInHanded_of_change_sized (C := Try.checked) own started (by kernel_rfl) Try.func11
    (ChangeSpec.witness6 (enc := enc) (C := Try.checked) false ⟨#[], #[.int .i64 0, .slice none 0 0], []⟩ 8 (by kernel_rfl) (by kernel_rfl) (by kernel_rfl) (by kernel_rfl)) ?_
  intro W base args ds gs before hval0 hW hcnd hsz0 _
  have hsz : (DataW.weightsEach Try.prog (Try.f11.params.toList ++ Rows.corePlaysSpec.plain.varTypes Try.prog) (ds ++ gs)).all (· ≤ reachBytes) = true := hsz0
  have hval : ∀ (j : Nat) t v, Try.f11.params[j]? = some t → args[j]? = some v → Value.okWide Try.prog W .any base t v := hval0
  have hW' := hW
  obtain ⟨p, q, hA0, hV, rfl, hfz, hnd⟩ := hW
  have hA : DataW.TrodAll enc Try.prog W 0 (fun _ => true) true Try.f11.params.toList args.toList ds p := hA0
  rw [Try.params11] at hA hval hsz
  obtain ⟨v0, vs0, d0, ds0, p0, q0, hargs, rfl, rfl, h0, r0⟩ := trodAll_cons hA
  obtain ⟨v1, vs1, d1, ds1, p1, q1, rfl, rfl, rfl, h1, r1⟩ := trodAll_cons r0
  obtain ⟨rfl, rfl, rfl⟩ := trodAll_nil r1
  obtain rfl : args = #[v0, v1] := by cases args; simp_all
  obtain ⟨rfl, rfl⟩ := trodVars_none hV
  have k0 := h0
  have lt0 : ∀ x ∈ p0, x.block < W.heap.size := by obtain ⟨m, hm⟩ := k0; exact DataW.trod_lt m _ _ _ hm
  obtain ⟨a0, rfl, rfl, rfl, w0⟩ := open_int Try.underlying3 (hval 0 3 v0 rfl rfl) h0
  have k1 := h1
  have lt1 : ∀ x ∈ p1, x.block < W.heap.size := by obtain ⟨m, hm⟩ := k1; exact DataW.trod_lt m _ _ _ hm
  obtain ⟨a1, len1, cap1, rfl⟩ := okWide_slice Try.underlying66 (hval 1 66 v1 rfl rfl)
  obtain ⟨fs1, e1, f1, o1, c1⟩ := fks1
  obtain ⟨y1, l1, V1, w1⟩ := open_rows f1 hsz (j := 1) (t := 66) rfl rfl Try.underlying66 e1 o1 c1 (B := 40) (by kernel_rfl) h1
  clear hA0 hval0 hsz0 hsz
  refine (WalkCorePlays.plays_walk W a0 w0 a1 len1 cap1 V1 w1 l1 y1).mono fun e W' ⟨he, bel⟩ => ?_
  subst he
  exact ⟨_, rfl, _, _, _, [], _, [], hW', trodAll_mk1 (shut_bool Try.underlying4 _), (trodAll_cons_mk (Below.trod laidOut (by kernel_rfl) (of_decide_eq_true (by kernel_rfl)) k0 bel lt0) (trodAll_cons_mk (Below.trod laidOut (by kernel_rfl) (of_decide_eq_true (by kernel_rfl)) k1 bel lt1) trodAll_mk0)), rfl, bel.frame _, fun h => by cases h⟩
theorem over : Rows.corePlaysRow.holds Try.pinned (OpenSpec.ofChange Rows.corePlaysSpec) :=
  OpenClaim.holds_of_wide 11 Try.f11 rfl rfl rfl rfl rfl rfl rfl ⟨rfl, rfl, rfl, rfl, rfl⟩ rfl rfl rfl rfl rfl (by kernel_rfl) Try.func11 (by kernel_rfl)
    (of_decide_eq_true (by kernel_rfl)) (by unfold Func.isWrapper; first | (rw [if_pos (by decide +kernel)]; kernel_rfl) | (rw [if_neg (by decide +kernel)]; exact ⟨rfl, rfl⟩))
    (fun os started H enc _ => lifted os started H enc)
theorem proved : Rows.CorePlaysSaid := over
#print axioms proved
end Go.Proofs.Ytpefmgmhclbcbaa.corePlays
namespace Go.Proofs.Ytpefmgmhclbcbaa
/-- The row, under a short name, for the claim. -/
theorem corePlays_holds : Rows.CorePlaysSaid := corePlays.proved
end Go.Proofs.Ytpefmgmhclbcbaa
