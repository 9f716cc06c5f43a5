/- known of layer 24, and the walk of FreqNil. -/
import Derived.Test.YtplppmgecknhiaaFreqB
import Derived.Test.YtplppmgecknhiaaOpen
namespace Go.Proofs.Ytplppmgecknhiaa.FreqC
open Go.RowKit Go.Proofs.Ytplppmgecknhiaa.NumD Go.Proofs.Ytplppmgecknhiaa.NumE Go.Proofs.Ytplppmgecknhiaa.Frame Go.Proofs.Ytplppmgecknhiaa.FreqA Go.Proofs.Ytplppmgecknhiaa.FreqB
set_option linter.unusedVariables false
set_option linter.unusedSimpArgs false
set_option maxRecDepth 100000 in
theorem known_ok (w : World) : Calls Try.prog 31 #[] w fun e w' => e = .returned (.bool true) ∧ Below w.heap.size w w' := by
  go_enter Try.func31, Try.ntmps31
  go_wp2_with fail
  refine (new_ok w 100 200 rfl).mono ?_
  rintro e w1 ⟨rfl, h1, b1⟩
  have H1 := Lib.hid h1
  clear h1
  go_wp2_with fail
  refine (feed_ok w1 _ 100 200 FS.zero 0 H1.out zero_ok rfl (by omega) 1 2 ⟨by omega, by omega, by omega⟩).mono ?_
  rintro e w2 ⟨he, h2, b2⟩
  rw [show scaleF 100 200 (busyF (FS.zero.put 0 1 2)) = 150 from by decide] at he
  subst he
  have H2 := Lib.hid h2
  clear h2
  have b3 : Below w.heap.size w w2 := (b1.trans (b2.below b1.size (fun k hk e => by omega)))
  go_wp2_with fail
  refine (limits_any w2 _ 100 200 _ _ H2.out).mono ?_
  rintro e w3 ⟨rfl, n, hn⟩
  have b4 : Below w2.heap.size w2 w3 := by rw [hn]; exact below_drewN (Below.refl _ _) _
  have H3 := Lib.hid (H2.out.below b4)
  have b5 : Below w.heap.size w w3 := b3.trans (b4.mono b3.size)
  clear hn
  go_wp2_with fail
  refine (busy_any w3 _ 100 200 _ _ H3.out (FS.put_ok zero_ok 0 ⟨by omega, by omega, by omega⟩)).mono ?_
  rintro e w4 ⟨he, b6⟩
  rw [show busyF (FS.zero.put 0 1 2) = 50 from by decide] at he
  subst he
  go_wp2
  go_returns
  exact ⟨rfl, b5.trans (b6.mono b5.size)⟩
set_option maxRecDepth 100000 in
theorem nil_walk (W : World) (a : Int) (w1 : (Lit.int .i64 a).wf = true) (b : Int) (w2 : (Lit.int .i64 b).wf = true) : Calls Try.prog 11 #[.int .i64 a, .int .i64 b] W fun e W' => e = .returned (.bool true) ∧ Below W.heap.size W W' := by
  clear w1 w2
  go_enter Try.func11, Try.ntmps11
  go_wp2_with (first
    | (go_at_call 32; refine (nil_feed _ a b).mono ?_; rintro e w' ⟨rfl, rfl⟩)
    | (go_at_call 48; refine (nil_limits _).mono ?_; rintro e w' ⟨rfl, rfl⟩)
    | (go_at_call 45; refine (nil_set _ a b).mono ?_; rintro e w' ⟨rfl, rfl⟩)
    | (go_at_call 33; refine (nil_freq _).mono ?_; rintro e w' ⟨rfl, n, hn⟩; rw [hn]; clear hn)
    | (go_at_call 50; refine (nil_busy _).mono ?_; rintro e w' ⟨rfl, rfl⟩)
    | (go_at_call 31; refine (known_ok _).mono ?_; rintro e w' ⟨rfl, hb⟩))
  go_returns
  refine ⟨rfl, ?_⟩
  exact (below_drewN (Below.refl W.heap.size W) n).trans hb
end Go.Proofs.Ytplppmgecknhiaa.FreqC
