/- Contracts of freq.Gov's Freq, Feed, Set, of New, and of what they say of a governor that is not there. -/
import Derived.Test.YtplppmgecknhiaaFreqA
namespace Go.Proofs.Ytplppmgecknhiaa.FreqB
open Go.RowKit Go.Proofs.Ytplppmgecknhiaa.NumD Go.Proofs.Ytplppmgecknhiaa.NumE Go.Proofs.Ytplppmgecknhiaa.Frame Go.Proofs.Ytplppmgecknhiaa.FreqA
set_option linter.unusedVariables false
set_option linter.unusedSimpArgs false
theorem right_in {lo hi : Int} (h : rightB lo hi = true) : 1 ≤ lo ∧ hi ≤ 100000 ∧ lo ≤ hi := by
  simp [rightB] at h
  omega
theorem busy_in (f : FS) : In64 (busyF f) := by
  have := WalkNumRises.percent_bounds f.busy f.all
  exact ⟨by unfold busyF; omega, by unfold busyF; omega⟩
set_option maxRecDepth 100000 in
theorem freq_any (w : World) (g : Nat) (lo hi : Int) (f : FS) (i : Nat) (h : Gov w g lo hi f i) (ok : f.ok) (rt : rightB lo hi = true) :
    Calls Try.prog 33 #[.pointer (some ⟨g, 0, none⟩)] w fun e w' => e = .returned (.int .i64 (scaleF lo hi (busyF f))) ∧ Below w.heap.size w w' := by
  have hl := Lib.hid (show In64 lo from ⟨by have := right_in rt; omega, by have := right_in rt; omega⟩)
  have hh := Lib.hid (show In64 hi from ⟨by have := right_in rt; omega, by have := right_in rt; omega⟩)
  have hb := Lib.hid (busy_in f)
  have H := Lib.hid h
  obtain ⟨p, hp⟩ : ∃ p, p = busyF f := ⟨_, rfl⟩
  rw [← hp] at hb ⊢
  clear h rt
  go_enter Try.func33, Try.ntmps33
  go_wp2_with fail
  refine (limits_any w g lo hi f i H.out).mono ?_
  rintro e w1 ⟨rfl, n, hn⟩
  have hb1 : Below w.heap.size w w1 := by rw [hn]; exact below_drewN (Below.refl _ _) _
  have H1 := Lib.hid (H.out.below hb1)
  clear hn
  go_wp2_with fail
  refine (busy_any w1 g lo hi f i H1.out ok).mono ?_
  rintro e w2 ⟨rfl, hb2⟩
  rw [← hp]
  clear hp
  go_wp2_with fail
  refine (scale_any lo hi p hl.out hh.out hb.out w2).mono ?_
  rintro e w3 ⟨rfl, n2, hn2⟩
  rw [hn2]
  clear hn2
  go_wp2
  go_returns
  exact ⟨rfl, below_drewN (hb1.trans (hb2.mono hb1.size)) _⟩
theorem nil_limits (w : World) : Calls Try.prog 48 #[.pointer none] w fun e w' => e = .returned (.tuple #[.int .i64 0, .int .i64 0]) ∧ w = w' := by
  go_enter Try.func48, Try.ntmps48
  go_wp2
  go_returns
  exact ⟨rfl, rfl⟩
theorem nil_busy (w : World) : Calls Try.prog 50 #[.pointer none] w fun e w' => e = .returned (.int .i64 0) ∧ w = w' := by
  go_enter Try.func50, Try.ntmps50
  go_wp2
  go_returns
  exact ⟨rfl, rfl⟩
theorem nil_freq (w : World) : Calls Try.prog 33 #[.pointer none] w fun e w' => e = .returned (.int .i64 0) ∧ ∃ n, w' = w.drewN n := by
  go_enter Try.func33, Try.ntmps33
  go_wp2_with fail
  refine (nil_limits w).mono ?_
  rintro e w1 ⟨rfl, rfl⟩
  go_wp2_with fail
  refine (nil_busy _).mono ?_
  rintro e w1 ⟨rfl, rfl⟩
  go_wp2_with fail
  refine (scale_any 0 0 0 ⟨by omega, by omega⟩ ⟨by omega, by omega⟩ ⟨by omega, by omega⟩ _).mono ?_
  rintro e w3 ⟨rfl, n2, hn2⟩
  rw [hn2]
  clear hn2
  go_wp2
  go_returns
  exact ⟨rfl, _, rfl⟩
theorem nil_feed (w : World) (a b : Int) : Calls Try.prog 32 #[.pointer none, .int .i64 a, .int .i64 b] w fun e w' => e = .returned (.tuple #[.int .i64 0, .int .i64 1]) ∧ w = w' := by
  go_enter Try.func32, Try.ntmps32
  go_wp2
  go_returns
  exact ⟨rfl, rfl⟩
theorem nil_set (w : World) (a b : Int) : Calls Try.prog 45 #[.pointer none, .int .i64 a, .int .i64 b] w fun e w' => e = .returned (.int .i64 1) ∧ w = w' := by
  go_enter Try.func45, Try.ntmps45
  go_wp2
  go_returns
  exact ⟨rfl, rfl⟩
theorem freq_with (w0 w : World) (g : Nat) (lo hi : Int) (f : FS) (i : Nat) (h : Gov w g lo hi f i ∧ Ch (· = g) w0 w) (ok : f.ok) (rt : rightB lo hi = true) :
    Calls Try.prog 33 #[.pointer (some ⟨g, 0, none⟩)] w fun e w' => e = .returned (.int .i64 (scaleF lo hi (busyF f))) ∧ Gov w' g lo hi f i ∧ Ch (· = g) w0 w' :=
  (freq_any w g lo hi f i h.1 ok rt).mono fun e w' k => ⟨k.1, h.1.below k.2, h.2.trans (Ch.of_below k.2)⟩
set_option maxRecDepth 100000 in
set_option maxHeartbeats 1000000 in
theorem feed_ok (w : World) (g : Nat) (lo hi : Int) (f : FS) (i : Nat) (h : Gov w g lo hi f i) (ok : f.ok) (rt : rightB lo hi = true) (h4 : i < 4) (b a : Int) (gd : good b a) :
    Calls Try.prog 32 #[.pointer (some ⟨g, 0, none⟩), .int .i64 b, .int .i64 a] w fun e w' => e = .returned (.tuple #[.int .i64 (scaleF lo hi (busyF (f.put i b a))), .int .i64 0]) ∧ Gov w' g lo hi (f.put i b a) ((i + 1) % 4) ∧ Ch (· = g) w w' := by
  obtain ⟨c0, c1, c2, c3, c4, c5, c6, c7, c8, c9, c10, fz, lt⟩ := h
  have OK := Lib.hid (f.put_ok ok i gd)
  have RT := Lib.hid rt
  obtain ⟨g1, g2, g3⟩ := gd
  clear ok rt
  have hcase : i = 0 ∨ i = 1 ∨ i = 2 ∨ i = 3 := by omega
  clear h4
  rcases hcase with rfl | rfl | rfl | rfl
  · go_enter Try.func32, Try.ntmps32
    go_wp2
    go_region
    all_goals go_wp2_with fail
    all_goals
      refine (freq_with w _ g lo hi _ 1 ⟨⟨?_, ?_, ?_, ?_, ?_, ?_, ?_, ?_, ?_, ?_, ?_, ?_, ?_⟩, ?_⟩ OK.out RT.out).mono ?fin
      case fin =>
        rintro e w1 ⟨rfl, k1, k2⟩
        go_wp2
        go_returns
        exact ⟨rfl, k1, k2⟩
      all_goals first
        | (go_simp; done)
        | (simp only [FS.put]; go_simp; done)
        | (show _ = some (Value.int IntKind.i64 1); go_simp; done)
        | (intro o; go_simp; done)
        | (repeat' (first | with_reducible exact Ch.refl _ _ | with_reducible assumption | (with_reducible refine Ch.setCell ?_ ?_ _) | (with_reducible refine Ch.alloc ?_ _) | (with_reducible refine Ch.drew ?_) | (with_reducible refine Ch.drewN ?_ _) | (intro _; rfl)))
  · go_enter Try.func32, Try.ntmps32
    go_wp2
    go_region
    all_goals go_wp2_with fail
    all_goals
      refine (freq_with w _ g lo hi _ 2 ⟨⟨?_, ?_, ?_, ?_, ?_, ?_, ?_, ?_, ?_, ?_, ?_, ?_, ?_⟩, ?_⟩ OK.out RT.out).mono ?fin
      case fin =>
        rintro e w1 ⟨rfl, k1, k2⟩
        go_wp2
        go_returns
        exact ⟨rfl, k1, k2⟩
      all_goals first
        | (go_simp; done)
        | (simp only [FS.put]; go_simp; done)
        | (show _ = some (Value.int IntKind.i64 2); go_simp; done)
        | (intro o; go_simp; done)
        | (repeat' (first | with_reducible exact Ch.refl _ _ | with_reducible assumption | (with_reducible refine Ch.setCell ?_ ?_ _) | (with_reducible refine Ch.alloc ?_ _) | (with_reducible refine Ch.drew ?_) | (with_reducible refine Ch.drewN ?_ _) | (intro _; rfl)))
  · go_enter Try.func32, Try.ntmps32
    go_wp2
    go_region
    all_goals go_wp2_with fail
    all_goals
      refine (freq_with w _ g lo hi _ 3 ⟨⟨?_, ?_, ?_, ?_, ?_, ?_, ?_, ?_, ?_, ?_, ?_, ?_, ?_⟩, ?_⟩ OK.out RT.out).mono ?fin
      case fin =>
        rintro e w1 ⟨rfl, k1, k2⟩
        go_wp2
        go_returns
        exact ⟨rfl, k1, k2⟩
      all_goals first
        | (go_simp; done)
        | (simp only [FS.put]; go_simp; done)
        | (show _ = some (Value.int IntKind.i64 3); go_simp; done)
        | (intro o; go_simp; done)
        | (repeat' (first | with_reducible exact Ch.refl _ _ | with_reducible assumption | (with_reducible refine Ch.setCell ?_ ?_ _) | (with_reducible refine Ch.alloc ?_ _) | (with_reducible refine Ch.drew ?_) | (with_reducible refine Ch.drewN ?_ _) | (intro _; rfl)))
  · go_enter Try.func32, Try.ntmps32
    go_wp2
    go_region
    all_goals go_wp2_with fail
    all_goals
      refine (freq_with w _ g lo hi _ 0 ⟨⟨?_, ?_, ?_, ?_, ?_, ?_, ?_, ?_, ?_, ?_, ?_, ?_, ?_⟩, ?_⟩ OK.out RT.out).mono ?fin
      case fin =>
        rintro e w1 ⟨rfl, k1, k2⟩
        go_wp2
        go_returns
        exact ⟨rfl, k1, k2⟩
      all_goals first
        | (go_simp; done)
        | (simp only [FS.put]; go_simp; done)
        | (show _ = some (Value.int IntKind.i64 0); go_simp; done)
        | (intro o; go_simp; done)
        | (repeat' (first | with_reducible exact Ch.refl _ _ | with_reducible assumption | (with_reducible refine Ch.setCell ?_ ?_ _) | (with_reducible refine Ch.alloc ?_ _) | (with_reducible refine Ch.drew ?_) | (with_reducible refine Ch.drewN ?_ _) | (intro _; rfl)))
theorem feed_bad (w : World) (g : Nat) (b a : Int) (gd : ¬ good b a) :
    Calls Try.prog 32 #[.pointer (some ⟨g, 0, none⟩), .int .i64 b, .int .i64 a] w fun e w' => e = .returned (.tuple #[.int .i64 0, .int .i64 2]) ∧ w = w' := by
  have hcase : b < 0 ∨ (0 ≤ b ∧ a < b) ∨ (0 ≤ b ∧ b ≤ a ∧ 1099511627776 < a) := by unfold good at gd; omega
  clear gd
  rcases hcase with h | ⟨h, h2⟩ | ⟨h, h2, h3⟩
  all_goals
    go_enter Try.func32, Try.ntmps32
    go_wp2
    go_returns
    exact ⟨rfl, rfl⟩
theorem set_bad (w : World) (g : Nat) (lo hi : Int) (rt : rightB lo hi = false) :
    Calls Try.prog 45 #[.pointer (some ⟨g, 0, none⟩), .int .i64 lo, .int .i64 hi] w fun e w' => e = .returned (.int .i64 2) ∧ w = w' := by
  go_enter Try.func45, Try.ntmps45
  go_wp2_with fail
  refine (right_any lo hi _).mono ?_
  rintro e w1 ⟨rfl, rfl⟩
  rw [rt]
  go_wp2
  go_returns
  exact ⟨rfl, rfl⟩
set_option maxRecDepth 100000 in
theorem set_ok (w : World) (g : Nat) (lo0 hi0 : Int) (f : FS) (i : Nat) (h : Gov w g lo0 hi0 f i) (lo hi : Int) (rt : rightB lo hi = true) :
    Calls Try.prog 45 #[.pointer (some ⟨g, 0, none⟩), .int .i64 lo, .int .i64 hi] w fun e w' => e = .returned (.int .i64 0) ∧ Gov w' g lo hi f i ∧ Ch (· = g) w w' := by
  obtain ⟨c0, c1, c2, c3, c4, c5, c6, c7, c8, c9, c10, fz, lt⟩ := h
  go_enter Try.func45, Try.ntmps45
  go_wp2_with fail
  refine (right_any lo hi _).mono ?_
  rintro e w1 ⟨rfl, rfl⟩
  rw [rt]
  go_wp2
  go_returns
  refine ⟨rfl, ⟨?_, ?_, ?_, ?_, ?_, ?_, ?_, ?_, ?_, ?_, ?_, ?_, ?_⟩, ?_⟩
  all_goals first
    | (go_simp; done)
    | (intro o; go_simp; done)
    | (repeat' (first | with_reducible exact Ch.refl _ _ | with_reducible assumption | (with_reducible refine Ch.setCell ?_ ?_ _) | (with_reducible refine Ch.alloc ?_ _) | (with_reducible refine Ch.drew ?_) | (with_reducible refine Ch.drewN ?_ _) | (intro _; rfl)))
theorem new_bad (w : World) (lo hi : Int) (rt : rightB lo hi = false) :
    Calls Try.prog 30 #[.int .i64 lo, .int .i64 hi] w fun e w' => e = .returned (.tuple #[.pointer none, .int .i64 2]) ∧ w = w' := by
  go_enter Try.func30, Try.ntmps30
  go_wp2_with fail
  refine (right_any lo hi _).mono ?_
  rintro e w1 ⟨rfl, rfl⟩
  rw [rt]
  go_wp2
  go_returns
  exact ⟨rfl, rfl⟩
theorem zero_ok : FS.zero.ok := ⟨⟨by decide, by decide, by decide⟩, ⟨by decide, by decide, by decide⟩, ⟨by decide, by decide, by decide⟩, ⟨by decide, by decide, by decide⟩⟩
set_option maxRecDepth 100000 in
theorem new_ok (w : World) (lo hi : Int) (rt : rightB lo hi = true) :
    Calls Try.prog 30 #[.int .i64 lo, .int .i64 hi] w fun e w' => e = .returned (.tuple #[.pointer (some ⟨w.heap.size, 0, none⟩), .int .i64 0]) ∧ Gov w' w.heap.size lo hi FS.zero 0 ∧ Below w.heap.size w w' := by
  go_enter Try.func30, Try.ntmps30
  go_wp2_with fail
  refine (right_any lo hi _).mono ?_
  rintro e w1 ⟨rfl, rfl⟩
  rw [rt]
  go_wp2
  go_returns
  refine ⟨rfl, ⟨?_, ?_, ?_, ?_, ?_, ?_, ?_, ?_, ?_, ?_, ?_, ?_, ?_⟩, ?_⟩
  all_goals first
    | (go_simp; done)
    | (intro o; go_simp; done)
    | (show _ = some (Value.int IntKind.i64 0); go_simp; done)
    | go_grown
end Go.Proofs.Ytplppmgecknhiaa.FreqB
