/- The row of the statement WirePuts: for every input that its guards let in it returns true, and each argument reads as before. The walk is YtpefmgmhclbcbaaWireL's. No condition beyond the row's own. -/
import Derived.Test.YtpefmgmhclbcbaaRows
import Derived.Test.YtpefmgmhclbcbaaWireL
import Derived.Test.YtpefmgmhclbcbaaOpen
import Derived.WalkKit
import Derived.ProofKit
import Derived.OpenShut
import Derived.ShutString
import Derived.ChangeOld
import Derived.Below
import Derived.SizedLaws
import Derived.Laws.Cover2
import Derived.Carry
namespace Go.Proofs.Ytpefmgmhclbcbaa.wirePuts
open Go.ChangeShapes Go.WideShapes Go.ChangeAt Go.RowKit Go.Proofs.Ytpefmgmhclbcbaa.Open
open Go.ChangeMaps (open_string shut_string)
set_option linter.unusedVariables false
theorem own : ownKnob Try.prog.godebug = none := by kernel_rfl
theorem laidOut : laidOutB Try.prog = true := by kernel_rfl
theorem fks0 : ∃ fs, Try.prog.underlying 40 = some (.struct fs) ∧ FKs Try.prog fs [.int .i64, .int .i64, .int .i64, .int .u64, .int .i64] ∧ Deep.oneCellFields Try.prog fs = true ∧ Try.prog.cellsOf 40 = fs.size :=
  ⟨_, Try.underlying40, ⟨rfl, by
    intro j k hj
    rcases j with _ | _ | _ | _ | _ | j
    all_goals first
    | (simp at hj; done)
    | (simp at hj; subst hj; exact ⟨_, rfl, by first | (show Try.prog.underlying _ = _; kernel_rfl)⟩)⟩, by kernel_rfl, by kernel_rfl⟩
set_option maxRecDepth 100000 in
theorem lifted (os : Os) (started : os.Started) (H : Type) (enc : TypeId × Value → H) :
    ReturnsInHanded {} Try.checked os 9 .any (Rows.wirePutsSpec.pre6 enc Try.prog Try.f9 Rows.wirePutsRow.domain false) (Rows.wirePutsSpec.post enc Try.prog Try.f9 false true false false) := by
  refine returnsInHanded_of_change_sized (C := Try.checked) own started (by kernel_rfl) Try.func9
    (ChangeSpec.witness6 (enc := enc) (C := Try.checked) false ⟨#[], #[.slice none 0 0], []⟩ 8 (by kernel_rfl) (by kernel_rfl) (by kernel_rfl) (by kernel_rfl)) ?_
  intro W base args ds gs before hval0 hW hcnd hsz0 _
  have hsz : (DataW.weightsEach Try.prog (Try.f9.params.toList ++ Rows.wirePutsSpec.plain.varTypes Try.prog) (ds ++ gs)).all (· ≤ reachBytes) = true := hsz0
  have hval : ∀ (j : Nat) t v, Try.f9.params[j]? = some t → args[j]? = some v → Value.okWide Try.prog W .any base t v := hval0
  have hW' := hW
  obtain ⟨p, q, hA0, hV, rfl, hfz, hnd⟩ := hW
  have hA : DataW.TrodAll enc Try.prog W 0 (fun _ => true) true Try.f9.params.toList args.toList ds p := hA0
  rw [Try.params9] at hA hval hsz
  obtain ⟨v0, vs0, d0, ds0, p0, q0, hargs, rfl, rfl, h0, r0⟩ := trodAll_cons hA
  obtain ⟨rfl, rfl, rfl⟩ := trodAll_nil r0
  obtain rfl : args = #[v0] := by cases args; simp_all
  obtain ⟨rfl, rfl⟩ := trodVars_none hV
  have k0 := h0
  have lt0 : ∀ x ∈ p0, x.block < W.heap.size := by obtain ⟨m, hm⟩ := k0; exact DataW.trod_lt m _ _ _ hm
  obtain ⟨a0, len0, cap0, rfl⟩ := okWide_slice Try.underlying58 (hval 0 58 v0 rfl rfl)
  obtain ⟨fs0, e0, f0, o0, c0⟩ := fks0
  obtain ⟨y0, l0, V0, w0⟩ := open_rows f0 hsz (j := 0) (t := 58) rfl rfl Try.underlying58 e0 o0 c0 (B := 40) (by kernel_rfl) h0
  clear hA0 hval0 hsz0 hsz
  refine (WireL.puts_walk W a0 len0 cap0 V0 w0 l0 y0).mono fun e W' ⟨he, bel⟩ => ?_
  subst he
  exact ⟨_, rfl, _, _, _, [], _, [], hW', trodAll_mk1 (shut_bool Try.underlying4 _), (trodAll_cons_mk (Below.trod laidOut (by kernel_rfl) (of_decide_eq_true (by kernel_rfl)) k0 bel lt0) trodAll_mk0), rfl, bel.frame _, fun h => by cases h⟩
theorem over : Rows.wirePutsRow.holds Try.pinned (OpenSpec.ofChange Rows.wirePutsSpec) :=
  OpenClaim.holds_of_wide 9 Try.f9 rfl rfl rfl rfl rfl rfl rfl ⟨rfl, rfl, rfl, rfl, rfl⟩ rfl rfl rfl rfl rfl (by kernel_rfl) Try.func9 (by kernel_rfl)
    (of_decide_eq_true (by kernel_rfl)) (by unfold Func.isWrapper; first | (rw [if_pos (by decide +kernel)]; kernel_rfl) | (rw [if_neg (by decide +kernel)]; exact ⟨rfl, rfl⟩))
    (fun os started H enc _ => lifted os started H enc)
theorem proved : Rows.WirePutsSaid := over
#print axioms proved
end Go.Proofs.Ytpefmgmhclbcbaa.wirePuts
namespace Go.Proofs.Ytpefmgmhclbcbaa
/-- The row, under a short name, for the claim. -/
theorem wirePuts_holds : Rows.WirePutsSaid := wirePuts.proved
end Go.Proofs.Ytpefmgmhclbcbaa
