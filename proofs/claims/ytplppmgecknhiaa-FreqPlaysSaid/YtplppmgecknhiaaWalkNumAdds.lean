/- The walk of NumAdds: for any two numbers the law returns true. Condition: they are of 64 bits. -/
import Derived.Test.YtplppmgecknhiaaNumE
import Derived.Test.YtplppmgecknhiaaOpen
namespace Go.Proofs.Ytplppmgecknhiaa.WalkNumAdds
open Go.RowKit Go.Proofs.Ytplppmgecknhiaa.NumD Go.Proofs.Ytplppmgecknhiaa.NumE
set_option linter.unusedVariables false
theorem in64 {a : Int} (h : (Lit.int .i64 a).wf = true) : In64 a := by
  simp only [Lit.wf, Bool.and_eq_true, decide_eq_true_eq] at h
  exact h
theorem below_drewN (w : World) (n : Nat) : Below w.heap.size w (w.drewN n) := ⟨rfl, rfl, rfl, Nat.le_refl _, fun _ _ => rfl⟩
set_option maxRecDepth 100000 in
set_option maxHeartbeats 1000000 in
theorem walk (W : World) (a : Int) (w1 : (Lit.int .i64 a).wf = true) (b : Int) (w2 : (Lit.int .i64 b).wf = true) : Calls Try.prog 6 #[.int .i64 a, .int .i64 b] W fun e W' => e = .returned (.bool true) ∧ Below W.heap.size W W' := by
  have ha := Lib.hid (in64 w1)
  have hb := Lib.hid (in64 w2)
  clear w1 w2
  go_enter Try.func6, Try.ntmps6
  go_wp2_with (first
    | (go_at_call 24; refine (add_any a b ha.out hb.out _).mono ?_; rintro e w' ⟨rfl, rfl⟩)
    | (go_at_call 25; refine (radd_any a b ha.out hb.out _).mono ?_; rintro e w' ⟨rfl, rfl⟩)
    | (go_at_call 26; refine (sub_any a b ha.out hb.out _).mono ?_; rintro e w' ⟨rfl, rfl⟩)
    | (go_at_call 27; refine (rsub_any a b ha.out hb.out _).mono ?_; rintro e w' ⟨rfl, rfl⟩)
    | (go_at_call 28; refine (later_any a b _ ha.out hb.out).mono ?_; rintro e w' ⟨rfl, rfl⟩)
    | (go_at_call 29; refine (rlater_any a b _ ha.out hb.out).mono ?_; rintro e w' ⟨rfl, rfl⟩)
    | (go_at_call 17; refine (known_ok _).mono ?_; rintro e w' ⟨rfl, n, hn⟩; rw [hn]; clear hn))
  go_returns
  exact ⟨rfl, below_drewN _ _⟩
end Go.Proofs.Ytplppmgecknhiaa.WalkNumAdds
