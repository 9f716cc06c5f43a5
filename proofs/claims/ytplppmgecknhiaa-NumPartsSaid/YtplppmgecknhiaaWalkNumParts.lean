/- The walk of NumParts: for any three numbers the law returns true. Condition: they are of 64 bits. -/
import Derived.Test.YtplppmgecknhiaaNumF
import Derived.Test.YtplppmgecknhiaaWalkNumAdds
namespace Go.Proofs.Ytplppmgecknhiaa.WalkNumParts
open Go.RowKit Go.Proofs.Ytplppmgecknhiaa.NumD Go.Proofs.Ytplppmgecknhiaa.NumE Go.Proofs.Ytplppmgecknhiaa.NumF Go.Proofs.Ytplppmgecknhiaa.WalkNumAdds
set_option linter.unusedVariables false
set_option maxRecDepth 100000 in
set_option maxHeartbeats 1000000 in
theorem walk (W : World) (a : Int) (w1 : (Lit.int .i64 a).wf = true) (b : Int) (w2 : (Lit.int .i64 b).wf = true) (c : Int) (w3 : (Lit.int .i64 c).wf = true) : Calls Try.prog 5 #[.int .i64 a, .int .i64 b, .int .i64 c] W fun e W' => e = .returned (.bool true) ∧ Below W.heap.size W W' := by
  have ha := Lib.hid (in64 w1)
  have hb := Lib.hid (in64 w2)
  clear w1 w2 w3
  go_enter Try.func5, Try.ntmps5
  go_wp2_with (first
    | (go_at_call 19; refine (clamp_any a b c _).mono ?_; rintro e w' ⟨rfl, rfl⟩)
    | (go_at_call 20; refine (rclamp_any a b c _).mono ?_; rintro e w' ⟨rfl, rfl⟩)
    | (go_at_call 18; refine (percent_any a b ha.out hb.out _).mono ?_; rintro e w' ⟨rfl, n, hn⟩; rw [hn]; clear hn)
    | (go_at_call 21; refine (rpercent_any a b ha.out hb.out _).mono ?_; rintro e w' ⟨rfl, rfl⟩)
    | (go_at_call 22; refine (log_any a ha.out _).mono ?_; rintro e w' ⟨rfl, rfl⟩)
    | (go_at_call 23; refine (rlog_any a ha.out _).mono ?_; rintro e w' ⟨rfl, rfl⟩)
    | (go_at_call 17; refine (known_ok _).mono ?_; rintro e w' ⟨rfl, m, hm⟩; rw [hm]; clear hm))
  go_returns
  refine ⟨rfl, ?_⟩
  exact Go.Proofs.Ytplppmgecknhiaa.WalkNumAdds.below_drewN W _
end Go.Proofs.Ytplppmgecknhiaa.WalkNumParts
