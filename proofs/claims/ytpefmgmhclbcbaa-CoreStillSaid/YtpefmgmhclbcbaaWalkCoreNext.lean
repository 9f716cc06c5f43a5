/- The walks of CoreNext and CoreNil: for every core and whatever waits for it the law returns true. -/
import Derived.Test.YtpefmgmhclbcbaaCoreG
import Derived.Test.YtpefmgmhclbcbaaOpen
import Derived.Deep.RegionHeld3
namespace Go.Proofs.Ytpefmgmhclbcbaa.WalkCoreNext
open Go.RowKit Go.Proofs.Ytpefmgmhclbcbaa.Frame Go.Proofs.Ytpefmgmhclbcbaa.Open
open Go.Proofs.Ytpefmgmhclbcbaa.CoreA Go.Proofs.Ytpefmgmhclbcbaa.CoreB Go.Proofs.Ytpefmgmhclbcbaa.CoreG
set_option linter.unusedVariables false
theorem keepcell {W w1 : World} (hb : Below W.heap.size W w1) {p : Addr} {v : Value} (h : W.cell? p = some v) : w1.cell? p = some v := (hb.cell (World.block_lt_of_cell? _ _ h)).trans h
theorem keepbelow {W0 W w1 : World} (h : Below W0.heap.size W0 W) (hb : Below W.heap.size W w1) : Below W0.heap.size W0 w1 := h.trans (hb.mono h.size)

set_option maxRecDepth 100000 in
set_option maxHeartbeats 4000000 in
theorem next_walk (p idle : Bool) (way since steps busy : Int) (s h t a c i m k d : Bool) (w : World) :
    Calls Try.prog 7 #[.agg #[.bool p, .bool idle, .int .i64 way, .int .i64 since, .int .i64 steps, .int .i64 busy], .agg #[.bool s, .bool h, .bool t, .bool a, .bool c, .bool i, .bool m, .bool k, .bool d]] w
      fun e w' => e = .returned (.bool true) ∧ Below w.heap.size w w' := by
  go_enter Try.func7, Try.ntmps7
  go_wp2_with fail
  have hB0 : Below w.heap.size w ((w.alloc (.cells #[.bool p, .bool idle, .int .i64 way, .int .i64 since, .int .i64 steps, .int .i64 busy] 48)).alloc (.cells #[.bool s, .bool h, .bool t, .bool a, .bool c, .bool i, .bool m, .bool k, .bool d] 50)).drew := by go_grown
  go_region_held3 (fun w' => w'.cell? ⟨w.heap.size, 0, none⟩ = some (.bool p) ∧ w'.cell? ⟨w.heap.size, 1, none⟩ = some (.bool idle) ∧ w'.cell? ⟨w.heap.size, 2, none⟩ = some (.int .i64 way) ∧ w'.cell? ⟨w.heap.size, 3, none⟩ = some (.int .i64 since) ∧ w'.cell? ⟨w.heap.size, 4, none⟩ = some (.int .i64 steps) ∧ w'.cell? ⟨w.heap.size, 5, none⟩ = some (.int .i64 busy) ∧
      w'.cell? ⟨w.heap.size + 1, 0, none⟩ = some (.bool s) ∧ w'.cell? ⟨w.heap.size + 1, 1, none⟩ = some (.bool h) ∧ w'.cell? ⟨w.heap.size + 1, 2, none⟩ = some (.bool t) ∧ w'.cell? ⟨w.heap.size + 1, 3, none⟩ = some (.bool a) ∧ w'.cell? ⟨w.heap.size + 1, 4, none⟩ = some (.bool c) ∧ w'.cell? ⟨w.heap.size + 1, 5, none⟩ = some (.bool i) ∧ w'.cell? ⟨w.heap.size + 1, 6, none⟩ = some (.bool m) ∧ w'.cell? ⟨w.heap.size + 1, 7, none⟩ = some (.bool k) ∧ w'.cell? ⟨w.heap.size + 1, 8, none⟩ = some (.bool d) ∧ Below w.heap.size w w')
    (first
      | go_keep
      | (go_split_ands
         refine ⟨?_, ?_, ?_, ?_, ?_, ?_, ?_, ?_, ?_, ?_, ?_, ?_, ?_, ?_, ?_, ?_⟩
         all_goals first | exact keepcell hb (by assumption) | exact keepbelow (by assumption) hb))
    (first
      | (go_at_call 27; refine (cores_any _ _ _ _ _ _ _).mono ?_; rintro e w1 ⟨rfl, hb⟩)
      | (go_at_call 28; refine (given_any _ _ _ _ _ _ _ _ _ _).mono ?_; rintro e w1 ⟨rfl, hb⟩)
      | (go_at_call 26; refine (next_any _ _ _ _ _ _ _ _ _ _ _ _ _ _ _ _).mono ?_; rintro e w1 ⟨rfl, hb⟩)
      | (go_at_call 29; refine (rnext_any _ _ _ _ _ _ _ _ _ _ _ _ _ _ _ _).mono ?_; rintro e w1 ⟨rfl, hb⟩)
      | (go_at_call 30; refine (known_ok _).mono ?_; rintro e w1 ⟨rfl, hb⟩))
  rename_i hH
  have HB := Lib.hid hH.2.2.2.2.2.2.2.2.2.2.2.2.2.2.2
  clear hH
  go_wp2
  go_returns
  exact ⟨rfl, HB.out⟩

theorem walk (W : World) (V : Nat → Value) (ok : ∀ (j : Nat) (k : FK), [FK.bool, .bool, .int .i64, .int .i64, .int .i64, .int .i64][j]? = some k → k.ok (V j)) (V' : Nat → Value) (ok' : ∀ (j : Nat) (k : FK), [FK.bool, .bool, .bool, .bool, .bool, .bool, .bool, .bool, .bool][j]? = some k → k.ok (V' j)) :
    Calls Try.prog 7 #[.agg ((List.range 6).map (fun j => (([FK.bool, .bool, .int .i64, .int .i64, .int .i64, .int .i64][j]?).getD .bool).val (V j))).toArray, .agg ((List.range 9).map (fun j => (([FK.bool, .bool, .bool, .bool, .bool, .bool, .bool, .bool, .bool][j]?).getD .bool).val (V' j))).toArray] W fun e W' => e = .returned (.bool true) ∧ Below W.heap.size W W' :=
  next_walk _ _ _ _ _ _ _ _ _ _ _ _ _ _ _ W

set_option maxRecDepth 100000 in
set_option maxHeartbeats 1000000 in
theorem nil_walk (W : World) (cpu : Int) (w1 : (Lit.int .i64 cpu).wf = true) (now : Int) (w2 : (Lit.int .i64 now).wf = true) : Calls Try.prog 12 #[.int .i64 cpu, .int .i64 now] W fun e w' => e = .returned (.bool true) ∧ Below W.heap.size W w' := by
  clear w1 w2
  go_enter Try.func12, Try.ntmps12
  go_wp2_with (first | (go_at_call 30; refine (known_ok _).mono ?_; rintro e w' ⟨rfl, hb⟩) | go_in)
  go_returns
  refine ⟨rfl, ?_⟩
  refine Below.trans ?_ (hb.mono ?_)
  · go_grown
  · go_size
end Go.Proofs.Ytpefmgmhclbcbaa.WalkCoreNext
