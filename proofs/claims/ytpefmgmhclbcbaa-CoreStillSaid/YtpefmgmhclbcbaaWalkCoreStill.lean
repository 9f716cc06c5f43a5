/- The walk of CoreStill: for every core and whatever waits for it the law returns true; one theorem for each way through its tests. -/
import Derived.Test.YtpefmgmhclbcbaaCoreG
import Derived.Test.YtpefmgmhclbcbaaOpen
import Derived.Test.YtpefmgmhclbcbaaWalkCoreNext
import Derived.Deep.RegionHeld3
namespace Go.Proofs.Ytpefmgmhclbcbaa.WalkCoreStill
open Go.RowKit Go.Proofs.Ytpefmgmhclbcbaa.Frame Go.Proofs.Ytpefmgmhclbcbaa.Open
open Go.Proofs.Ytpefmgmhclbcbaa.CoreA Go.Proofs.Ytpefmgmhclbcbaa.CoreB Go.Proofs.Ytpefmgmhclbcbaa.CoreG
open Go.Proofs.Ytpefmgmhclbcbaa.WalkCoreNext (keepcell keepbelow)
set_option linter.unusedVariables false
theorem next_lit (r : Int) (p idle : Bool) (way since steps busy : Int) (s h t a c i m k d : Bool) (hr : next p idle (wants s h t a c i m k d) = r) (w : World) :
    Calls Try.prog 26 #[.agg #[.bool p, .bool idle, .int .i64 way, .int .i64 since, .int .i64 steps, .int .i64 busy], .agg #[.bool s, .bool h, .bool t, .bool a, .bool c, .bool i, .bool m, .bool k, .bool d]] w
      fun e w' => e = .returned (.int .i64 r) ∧ Below w.heap.size w w' := hr ▸ next_any p idle way since steps busy s h t a c i m k d w

set_option maxRecDepth 100000 in
set_option maxHeartbeats 4000000 in
theorem st0 (way since steps busy : Int) (h t c i m k d idle : Bool) (w : World) :
    Calls Try.prog 8 #[.agg #[.bool false, .bool idle, .int .i64 way, .int .i64 since, .int .i64 steps, .int .i64 busy], .agg #[.bool true, .bool h, .bool t, .bool true, .bool c, .bool i, .bool m, .bool k, .bool d]] w fun e w' => e = .returned (.bool true) ∧ Below w.heap.size w w' := by
  go_enter Try.func8, Try.ntmps8
  go_wp2_with fail
  have hB0 : Below w.heap.size w ((w.alloc (.cells #[.bool false, .bool idle, .int .i64 way, .int .i64 since, .int .i64 steps, .int .i64 busy] 48)).alloc (.cells #[.bool true, .bool h, .bool t, .bool true, .bool c, .bool i, .bool m, .bool k, .bool d] 50)).drew := by go_grown
  go_region_held3 (fun w' => w'.cell? ⟨w.heap.size, 0, none⟩ = some (.bool false) ∧ w'.cell? ⟨w.heap.size, 1, none⟩ = some (.bool idle) ∧ w'.cell? ⟨w.heap.size, 2, none⟩ = some (.int .i64 way) ∧ w'.cell? ⟨w.heap.size, 3, none⟩ = some (.int .i64 since) ∧ w'.cell? ⟨w.heap.size, 4, none⟩ = some (.int .i64 steps) ∧ w'.cell? ⟨w.heap.size, 5, none⟩ = some (.int .i64 busy) ∧ w'.cell? ⟨w.heap.size + 1, 0, none⟩ = some (.bool true) ∧ w'.cell? ⟨w.heap.size + 1, 1, none⟩ = some (.bool h) ∧ w'.cell? ⟨w.heap.size + 1, 2, none⟩ = some (.bool t) ∧ w'.cell? ⟨w.heap.size + 1, 3, none⟩ = some (.bool true) ∧ w'.cell? ⟨w.heap.size + 1, 4, none⟩ = some (.bool c) ∧ w'.cell? ⟨w.heap.size + 1, 5, none⟩ = some (.bool i) ∧ w'.cell? ⟨w.heap.size + 1, 6, none⟩ = some (.bool m) ∧ w'.cell? ⟨w.heap.size + 1, 7, none⟩ = some (.bool k) ∧ w'.cell? ⟨w.heap.size + 1, 8, none⟩ = some (.bool d) ∧ Below w.heap.size w w')
    (first
      | go_keep
      | (go_split_ands
         refine ⟨?_, ?_, ?_, ?_, ?_, ?_, ?_, ?_, ?_, ?_, ?_, ?_, ?_, ?_, ?_, ?_⟩
         all_goals first | exact keepcell hb (by assumption) | exact keepbelow (by assumption) hb))
    (first
      | (go_at_call 27; refine (cores_any _ _ _ _ _ _ _).mono ?_; rintro e w1 ⟨rfl, hb⟩)
      | (go_at_call 28; refine (given_any _ _ _ _ _ _ _ _ _ _).mono ?_; rintro e w1 ⟨rfl, hb⟩)
      | (go_at_call 26; refine (next_lit (0) _ _ _ _ _ _ _ _ _ _ _ _ _ _ _ rfl _).mono ?_; rintro e w1 ⟨rfl, hb⟩))
  rename_i hH
  obtain ⟨c0, c1, c2, c3, c4, c5, c6, c7, c8, c9, c10, c11, c12, c13, c14, hB⟩ := hH
  have HB := Lib.hid hB
  clear hB
  go_wp2_with (go_at_call 30; refine (known_ok _).mono ?_; rintro e w9 ⟨rfl, hb9⟩)
  all_goals
    go_returns
    exact ⟨rfl, HB.out.trans (hb9.mono HB.out.size)⟩

set_option maxRecDepth 100000 in
set_option maxHeartbeats 4000000 in
theorem st1 (way since steps busy : Int) (h t c i m k d idle : Bool) (w : World) :
    Calls Try.prog 8 #[.agg #[.bool false, .bool idle, .int .i64 way, .int .i64 since, .int .i64 steps, .int .i64 busy], .agg #[.bool true, .bool h, .bool t, .bool false, .bool c, .bool i, .bool m, .bool k, .bool d]] w fun e w' => e = .returned (.bool true) ∧ Below w.heap.size w w' := by
  go_enter Try.func8, Try.ntmps8
  go_wp2_with fail
  have hB0 : Below w.heap.size w ((w.alloc (.cells #[.bool false, .bool idle, .int .i64 way, .int .i64 since, .int .i64 steps, .int .i64 busy] 48)).alloc (.cells #[.bool true, .bool h, .bool t, .bool false, .bool c, .bool i, .bool m, .bool k, .bool d] 50)).drew := by go_grown
  go_region_held3 (fun w' => w'.cell? ⟨w.heap.size, 0, none⟩ = some (.bool false) ∧ w'.cell? ⟨w.heap.size, 1, none⟩ = some (.bool idle) ∧ w'.cell? ⟨w.heap.size, 2, none⟩ = some (.int .i64 way) ∧ w'.cell? ⟨w.heap.size, 3, none⟩ = some (.int .i64 since) ∧ w'.cell? ⟨w.heap.size, 4, none⟩ = some (.int .i64 steps) ∧ w'.cell? ⟨w.heap.size, 5, none⟩ = some (.int .i64 busy) ∧ w'.cell? ⟨w.heap.size + 1, 0, none⟩ = some (.bool true) ∧ w'.cell? ⟨w.heap.size + 1, 1, none⟩ = some (.bool h) ∧ w'.cell? ⟨w.heap.size + 1, 2, none⟩ = some (.bool t) ∧ w'.cell? ⟨w.heap.size + 1, 3, none⟩ = some (.bool false) ∧ w'.cell? ⟨w.heap.size + 1, 4, none⟩ = some (.bool c) ∧ w'.cell? ⟨w.heap.size + 1, 5, none⟩ = some (.bool i) ∧ w'.cell? ⟨w.heap.size + 1, 6, none⟩ = some (.bool m) ∧ w'.cell? ⟨w.heap.size + 1, 7, none⟩ = some (.bool k) ∧ w'.cell? ⟨w.heap.size + 1, 8, none⟩ = some (.bool d) ∧ Below w.heap.size w w')
    (first
      | go_keep
      | (go_split_ands
         refine ⟨?_, ?_, ?_, ?_, ?_, ?_, ?_, ?_, ?_, ?_, ?_, ?_, ?_, ?_, ?_, ?_⟩
         all_goals first | exact keepcell hb (by assumption) | exact keepbelow (by assumption) hb))
    (first
      | (go_at_call 27; refine (cores_any _ _ _ _ _ _ _).mono ?_; rintro e w1 ⟨rfl, hb⟩)
      | (go_at_call 28; refine (given_any _ _ _ _ _ _ _ _ _ _).mono ?_; rintro e w1 ⟨rfl, hb⟩)
      | (go_at_call 26; refine (next_lit (0) _ _ _ _ _ _ _ _ _ _ _ _ _ _ _ rfl _).mono ?_; rintro e w1 ⟨rfl, hb⟩))
  rename_i hH
  obtain ⟨c0, c1, c2, c3, c4, c5, c6, c7, c8, c9, c10, c11, c12, c13, c14, hB⟩ := hH
  have HB := Lib.hid hB
  clear hB
  go_wp2_with (go_at_call 30; refine (known_ok _).mono ?_; rintro e w9 ⟨rfl, hb9⟩)
  all_goals
    go_returns
    exact ⟨rfl, HB.out.trans (hb9.mono HB.out.size)⟩

set_option maxRecDepth 100000 in
set_option maxHeartbeats 4000000 in
theorem st2 (way since steps busy : Int) (h c i m k d idle : Bool) (w : World) :
    Calls Try.prog 8 #[.agg #[.bool false, .bool idle, .int .i64 way, .int .i64 since, .int .i64 steps, .int .i64 busy], .agg #[.bool false, .bool h, .bool true, .bool true, .bool c, .bool i, .bool m, .bool k, .bool d]] w fun e w' => e = .returned (.bool true) ∧ Below w.heap.size w w' := by
  go_enter Try.func8, Try.ntmps8
  go_wp2_with fail
  have hB0 : Below w.heap.size w ((w.alloc (.cells #[.bool false, .bool idle, .int .i64 way, .int .i64 since, .int .i64 steps, .int .i64 busy] 48)).alloc (.cells #[.bool false, .bool h, .bool true, .bool true, .bool c, .bool i, .bool m, .bool k, .bool d] 50)).drew := by go_grown
  go_region_held3 (fun w' => w'.cell? ⟨w.heap.size, 0, none⟩ = some (.bool false) ∧ w'.cell? ⟨w.heap.size, 1, none⟩ = some (.bool idle) ∧ w'.cell? ⟨w.heap.size, 2, none⟩ = some (.int .i64 way) ∧ w'.cell? ⟨w.heap.size, 3, none⟩ = some (.int .i64 since) ∧ w'.cell? ⟨w.heap.size, 4, none⟩ = some (.int .i64 steps) ∧ w'.cell? ⟨w.heap.size, 5, none⟩ = some (.int .i64 busy) ∧ w'.cell? ⟨w.heap.size + 1, 0, none⟩ = some (.bool false) ∧ w'.cell? ⟨w.heap.size + 1, 1, none⟩ = some (.bool h) ∧ w'.cell? ⟨w.heap.size + 1, 2, none⟩ = some (.bool true) ∧ w'.cell? ⟨w.heap.size + 1, 3, none⟩ = some (.bool true) ∧ w'.cell? ⟨w.heap.size + 1, 4, none⟩ = some (.bool c) ∧ w'.cell? ⟨w.heap.size + 1, 5, none⟩ = some (.bool i) ∧ w'.cell? ⟨w.heap.size + 1, 6, none⟩ = some (.bool m) ∧ w'.cell? ⟨w.heap.size + 1, 7, none⟩ = some (.bool k) ∧ w'.cell? ⟨w.heap.size + 1, 8, none⟩ = some (.bool d) ∧ Below w.heap.size w w')
    (first
      | go_keep
      | (go_split_ands
         refine ⟨?_, ?_, ?_, ?_, ?_, ?_, ?_, ?_, ?_, ?_, ?_, ?_, ?_, ?_, ?_, ?_⟩
         all_goals first | exact keepcell hb (by assumption) | exact keepbelow (by assumption) hb))
    (first
      | (go_at_call 27; refine (cores_any _ _ _ _ _ _ _).mono ?_; rintro e w1 ⟨rfl, hb⟩)
      | (go_at_call 28; refine (given_any _ _ _ _ _ _ _ _ _ _).mono ?_; rintro e w1 ⟨rfl, hb⟩)
      | (go_at_call 26; refine (next_lit (0) _ _ _ _ _ _ _ _ _ _ _ _ _ _ _ rfl _).mono ?_; rintro e w1 ⟨rfl, hb⟩))
  rename_i hH
  obtain ⟨c0, c1, c2, c3, c4, c5, c6, c7, c8, c9, c10, c11, c12, c13, c14, hB⟩ := hH
  have HB := Lib.hid hB
  clear hB
  go_wp2_with (go_at_call 30; refine (known_ok _).mono ?_; rintro e w9 ⟨rfl, hb9⟩)
  all_goals
    go_returns
    exact ⟨rfl, HB.out.trans (hb9.mono HB.out.size)⟩

set_option maxRecDepth 100000 in
set_option maxHeartbeats 4000000 in
theorem st3 (way since steps busy : Int) (h c i m k d idle : Bool) (w : World) :
    Calls Try.prog 8 #[.agg #[.bool false, .bool idle, .int .i64 way, .int .i64 since, .int .i64 steps, .int .i64 busy], .agg #[.bool false, .bool h, .bool true, .bool false, .bool c, .bool i, .bool m, .bool k, .bool d]] w fun e w' => e = .returned (.bool true) ∧ Below w.heap.size w w' := by
  go_enter Try.func8, Try.ntmps8
  go_wp2_with fail
  have hB0 : Below w.heap.size w ((w.alloc (.cells #[.bool false, .bool idle, .int .i64 way, .int .i64 since, .int .i64 steps, .int .i64 busy] 48)).alloc (.cells #[.bool false, .bool h, .bool true, .bool false, .bool c, .bool i, .bool m, .bool k, .bool d] 50)).drew := by go_grown
  go_region_held3 (fun w' => w'.cell? ⟨w.heap.size, 0, none⟩ = some (.bool false) ∧ w'.cell? ⟨w.heap.size, 1, none⟩ = some (.bool idle) ∧ w'.cell? ⟨w.heap.size, 2, none⟩ = some (.int .i64 way) ∧ w'.cell? ⟨w.heap.size, 3, none⟩ = some (.int .i64 since) ∧ w'.cell? ⟨w.heap.size, 4, none⟩ = some (.int .i64 steps) ∧ w'.cell? ⟨w.heap.size, 5, none⟩ = some (.int .i64 busy) ∧ w'.cell? ⟨w.heap.size + 1, 0, none⟩ = some (.bool false) ∧ w'.cell? ⟨w.heap.size + 1, 1, none⟩ = some (.bool h) ∧ w'.cell? ⟨w.heap.size + 1, 2, none⟩ = some (.bool true) ∧ w'.cell? ⟨w.heap.size + 1, 3, none⟩ = some (.bool false) ∧ w'.cell? ⟨w.heap.size + 1, 4, none⟩ = some (.bool c) ∧ w'.cell? ⟨w.heap.size + 1, 5, none⟩ = some (.bool i) ∧ w'.cell? ⟨w.heap.size + 1, 6, none⟩ = some (.bool m) ∧ w'.cell? ⟨w.heap.size + 1, 7, none⟩ = some (.bool k) ∧ w'.cell? ⟨w.heap.size + 1, 8, none⟩ = some (.bool d) ∧ Below w.heap.size w w')
    (first
      | go_keep
      | (go_split_ands
         refine ⟨?_, ?_, ?_, ?_, ?_, ?_, ?_, ?_, ?_, ?_, ?_, ?_, ?_, ?_, ?_, ?_⟩
         all_goals first | exact keepcell hb (by assumption) | exact keepbelow (by assumption) hb))
    (first
      | (go_at_call 27; refine (cores_any _ _ _ _ _ _ _).mono ?_; rintro e w1 ⟨rfl, hb⟩)
      | (go_at_call 28; refine (given_any _ _ _ _ _ _ _ _ _ _).mono ?_; rintro e w1 ⟨rfl, hb⟩)
      | (go_at_call 26; refine (next_lit (0) _ _ _ _ _ _ _ _ _ _ _ _ _ _ _ rfl _).mono ?_; rintro e w1 ⟨rfl, hb⟩))
  rename_i hH
  obtain ⟨c0, c1, c2, c3, c4, c5, c6, c7, c8, c9, c10, c11, c12, c13, c14, hB⟩ := hH
  have HB := Lib.hid hB
  clear hB
  go_wp2_with (go_at_call 30; refine (known_ok _).mono ?_; rintro e w9 ⟨rfl, hb9⟩)
  all_goals
    go_returns
    exact ⟨rfl, HB.out.trans (hb9.mono HB.out.size)⟩

set_option maxRecDepth 100000 in
set_option maxHeartbeats 4000000 in
theorem st4 (way since steps busy : Int) (c i m k d idle : Bool) (w : World) :
    Calls Try.prog 8 #[.agg #[.bool false, .bool idle, .int .i64 way, .int .i64 since, .int .i64 steps, .int .i64 busy], .agg #[.bool false, .bool true, .bool false, .bool true, .bool c, .bool i, .bool m, .bool k, .bool d]] w fun e w' => e = .returned (.bool true) ∧ Below w.heap.size w w' := by
  go_enter Try.func8, Try.ntmps8
  go_wp2_with fail
  have hB0 : Below w.heap.size w ((w.alloc (.cells #[.bool false, .bool idle, .int .i64 way, .int .i64 since, .int .i64 steps, .int .i64 busy] 48)).alloc (.cells #[.bool false, .bool true, .bool false, .bool true, .bool c, .bool i, .bool m, .bool k, .bool d] 50)).drew := by go_grown
  go_region_held3 (fun w' => w'.cell? ⟨w.heap.size, 0, none⟩ = some (.bool false) ∧ w'.cell? ⟨w.heap.size, 1, none⟩ = some (.bool idle) ∧ w'.cell? ⟨w.heap.size, 2, none⟩ = some (.int .i64 way) ∧ w'.cell? ⟨w.heap.size, 3, none⟩ = some (.int .i64 since) ∧ w'.cell? ⟨w.heap.size, 4, none⟩ = some (.int .i64 steps) ∧ w'.cell? ⟨w.heap.size, 5, none⟩ = some (.int .i64 busy) ∧ w'.cell? ⟨w.heap.size + 1, 0, none⟩ = some (.bool false) ∧ w'.cell? ⟨w.heap.size + 1, 1, none⟩ = some (.bool true) ∧ w'.cell? ⟨w.heap.size + 1, 2, none⟩ = some (.bool false) ∧ w'.cell? ⟨w.heap.size + 1, 3, none⟩ = some (.bool true) ∧ w'.cell? ⟨w.heap.size + 1, 4, none⟩ = some (.bool c) ∧ w'.cell? ⟨w.heap.size + 1, 5, none⟩ = some (.bool i) ∧ w'.cell? ⟨w.heap.size + 1, 6, none⟩ = some (.bool m) ∧ w'.cell? ⟨w.heap.size + 1, 7, none⟩ = some (.bool k) ∧ w'.cell? ⟨w.heap.size + 1, 8, none⟩ = some (.bool d) ∧ Below w.heap.size w w')
    (first
      | go_keep
      | (go_split_ands
         refine ⟨?_, ?_, ?_, ?_, ?_, ?_, ?_, ?_, ?_, ?_, ?_, ?_, ?_, ?_, ?_, ?_⟩
         all_goals first | exact keepcell hb (by assumption) | exact keepbelow (by assumption) hb))
    (first
      | (go_at_call 27; refine (cores_any _ _ _ _ _ _ _).mono ?_; rintro e w1 ⟨rfl, hb⟩)
      | (go_at_call 28; refine (given_any _ _ _ _ _ _ _ _ _ _).mono ?_; rintro e w1 ⟨rfl, hb⟩)
      | (go_at_call 26; refine (next_lit (0) _ _ _ _ _ _ _ _ _ _ _ _ _ _ _ rfl _).mono ?_; rintro e w1 ⟨rfl, hb⟩))
  rename_i hH
  obtain ⟨c0, c1, c2, c3, c4, c5, c6, c7, c8, c9, c10, c11, c12, c13, c14, hB⟩ := hH
  have HB := Lib.hid hB
  clear hB
  go_wp2_with (go_at_call 30; refine (known_ok _).mono ?_; rintro e w9 ⟨rfl, hb9⟩)
  all_goals
    go_returns
    exact ⟨rfl, HB.out.trans (hb9.mono HB.out.size)⟩

set_option maxRecDepth 100000 in
set_option maxHeartbeats 4000000 in
theorem st5 (way since steps busy : Int) (c i m k d idle : Bool) (w : World) :
    Calls Try.prog 8 #[.agg #[.bool false, .bool idle, .int .i64 way, .int .i64 since, .int .i64 steps, .int .i64 busy], .agg #[.bool false, .bool true, .bool false, .bool false, .bool c, .bool i, .bool m, .bool k, .bool d]] w fun e w' => e = .returned (.bool true) ∧ Below w.heap.size w w' := by
  go_enter Try.func8, Try.ntmps8
  go_wp2_with fail
  have hB0 : Below w.heap.size w ((w.alloc (.cells #[.bool false, .bool idle, .int .i64 way, .int .i64 since, .int .i64 steps, .int .i64 busy] 48)).alloc (.cells #[.bool false, .bool true, .bool false, .bool false, .bool c, .bool i, .bool m, .bool k, .bool d] 50)).drew := by go_grown
  go_region_held3 (fun w' => w'.cell? ⟨w.heap.size, 0, none⟩ = some (.bool false) ∧ w'.cell? ⟨w.heap.size, 1, none⟩ = some (.bool idle) ∧ w'.cell? ⟨w.heap.size, 2, none⟩ = some (.int .i64 way) ∧ w'.cell? ⟨w.heap.size, 3, none⟩ = some (.int .i64 since) ∧ w'.cell? ⟨w.heap.size, 4, none⟩ = some (.int .i64 steps) ∧ w'.cell? ⟨w.heap.size, 5, none⟩ = some (.int .i64 busy) ∧ w'.cell? ⟨w.heap.size + 1, 0, none⟩ = some (.bool false) ∧ w'.cell? ⟨w.heap.size + 1, 1, none⟩ = some (.bool true) ∧ w'.cell? ⟨w.heap.size + 1, 2, none⟩ = some (.bool false) ∧ w'.cell? ⟨w.heap.size + 1, 3, none⟩ = some (.bool false) ∧ w'.cell? ⟨w.heap.size + 1, 4, none⟩ = some (.bool c) ∧ w'.cell? ⟨w.heap.size + 1, 5, none⟩ = some (.bool i) ∧ w'.cell? ⟨w.heap.size + 1, 6, none⟩ = some (.bool m) ∧ w'.cell? ⟨w.heap.size + 1, 7, none⟩ = some (.bool k) ∧ w'.cell? ⟨w.heap.size + 1, 8, none⟩ = some (.bool d) ∧ Below w.heap.size w w')
    (first
      | go_keep
      | (go_split_ands
         refine ⟨?_, ?_, ?_, ?_, ?_, ?_, ?_, ?_, ?_, ?_, ?_, ?_, ?_, ?_, ?_, ?_⟩
         all_goals first | exact keepcell hb (by assumption) | exact keepbelow (by assumption) hb))
    (first
      | (go_at_call 27; refine (cores_any _ _ _ _ _ _ _).mono ?_; rintro e w1 ⟨rfl, hb⟩)
      | (go_at_call 28; refine (given_any _ _ _ _ _ _ _ _ _ _).mono ?_; rintro e w1 ⟨rfl, hb⟩)
      | (go_at_call 26; refine (next_lit (0) _ _ _ _ _ _ _ _ _ _ _ _ _ _ _ rfl _).mono ?_; rintro e w1 ⟨rfl, hb⟩))
  rename_i hH
  obtain ⟨c0, c1, c2, c3, c4, c5, c6, c7, c8, c9, c10, c11, c12, c13, c14, hB⟩ := hH
  have HB := Lib.hid hB
  clear hB
  go_wp2_with (go_at_call 30; refine (known_ok _).mono ?_; rintro e w9 ⟨rfl, hb9⟩)
  all_goals
    go_returns
    exact ⟨rfl, HB.out.trans (hb9.mono HB.out.size)⟩

set_option maxRecDepth 100000 in
set_option maxHeartbeats 4000000 in
theorem st6 (way since steps busy : Int) (c i m k d idle : Bool) (w : World) :
    Calls Try.prog 8 #[.agg #[.bool false, .bool idle, .int .i64 way, .int .i64 since, .int .i64 steps, .int .i64 busy], .agg #[.bool false, .bool false, .bool false, .bool false, .bool c, .bool i, .bool m, .bool k, .bool d]] w fun e w' => e = .returned (.bool true) ∧ Below w.heap.size w w' := by
  go_enter Try.func8, Try.ntmps8
  go_wp2_with fail
  have hB0 : Below w.heap.size w ((w.alloc (.cells #[.bool false, .bool idle, .int .i64 way, .int .i64 since, .int .i64 steps, .int .i64 busy] 48)).alloc (.cells #[.bool false, .bool false, .bool false, .bool false, .bool c, .bool i, .bool m, .bool k, .bool d] 50)).drew := by go_grown
  go_region_held3 (fun w' => w'.cell? ⟨w.heap.size, 0, none⟩ = some (.bool false) ∧ w'.cell? ⟨w.heap.size, 1, none⟩ = some (.bool idle) ∧ w'.cell? ⟨w.heap.size, 2, none⟩ = some (.int .i64 way) ∧ w'.cell? ⟨w.heap.size, 3, none⟩ = some (.int .i64 since) ∧ w'.cell? ⟨w.heap.size, 4, none⟩ = some (.int .i64 steps) ∧ w'.cell? ⟨w.heap.size, 5, none⟩ = some (.int .i64 busy) ∧ w'.cell? ⟨w.heap.size + 1, 0, none⟩ = some (.bool false) ∧ w'.cell? ⟨w.heap.size + 1, 1, none⟩ = some (.bool false) ∧ w'.cell? ⟨w.heap.size + 1, 2, none⟩ = some (.bool false) ∧ w'.cell? ⟨w.heap.size + 1, 3, none⟩ = some (.bool false) ∧ w'.cell? ⟨w.heap.size + 1, 4, none⟩ = some (.bool c) ∧ w'.cell? ⟨w.heap.size + 1, 5, none⟩ = some (.bool i) ∧ w'.cell? ⟨w.heap.size + 1, 6, none⟩ = some (.bool m) ∧ w'.cell? ⟨w.heap.size + 1, 7, none⟩ = some (.bool k) ∧ w'.cell? ⟨w.heap.size + 1, 8, none⟩ = some (.bool d) ∧ Below w.heap.size w w')
    (first
      | go_keep
      | (go_split_ands
         refine ⟨?_, ?_, ?_, ?_, ?_, ?_, ?_, ?_, ?_, ?_, ?_, ?_, ?_, ?_, ?_, ?_⟩
         all_goals first | exact keepcell hb (by assumption) | exact keepbelow (by assumption) hb))
    (first
      | (go_at_call 27; refine (cores_any _ _ _ _ _ _ _).mono ?_; rintro e w1 ⟨rfl, hb⟩)
      | (go_at_call 28; refine (given_any _ _ _ _ _ _ _ _ _ _).mono ?_; rintro e w1 ⟨rfl, hb⟩)
      | (go_at_call 26; refine (next_lit (0) _ _ _ _ _ _ _ _ _ _ _ _ _ _ _ rfl _).mono ?_; rintro e w1 ⟨rfl, hb⟩))
  rename_i hH
  obtain ⟨c0, c1, c2, c3, c4, c5, c6, c7, c8, c9, c10, c11, c12, c13, c14, hB⟩ := hH
  have HB := Lib.hid hB
  clear hB
  go_wp2_with (go_at_call 30; refine (known_ok _).mono ?_; rintro e w9 ⟨rfl, hb9⟩)
  all_goals
    go_returns
    exact ⟨rfl, HB.out.trans (hb9.mono HB.out.size)⟩

set_option maxRecDepth 100000 in
set_option maxHeartbeats 4000000 in
theorem st7 (way since steps busy : Int) (i m k d idle : Bool) (w : World) :
    Calls Try.prog 8 #[.agg #[.bool false, .bool idle, .int .i64 way, .int .i64 since, .int .i64 steps, .int .i64 busy], .agg #[.bool false, .bool false, .bool false, .bool true, .bool true, .bool i, .bool m, .bool k, .bool d]] w fun e w' => e = .returned (.bool true) ∧ Below w.heap.size w w' := by
  go_enter Try.func8, Try.ntmps8
  go_wp2_with fail
  have hB0 : Below w.heap.size w ((w.alloc (.cells #[.bool false, .bool idle, .int .i64 way, .int .i64 since, .int .i64 steps, .int .i64 busy] 48)).alloc (.cells #[.bool false, .bool false, .bool false, .bool true, .bool true, .bool i, .bool m, .bool k, .bool d] 50)).drew := by go_grown
  go_region_held3 (fun w' => w'.cell? ⟨w.heap.size, 0, none⟩ = some (.bool false) ∧ w'.cell? ⟨w.heap.size, 1, none⟩ = some (.bool idle) ∧ w'.cell? ⟨w.heap.size, 2, none⟩ = some (.int .i64 way) ∧ w'.cell? ⟨w.heap.size, 3, none⟩ = some (.int .i64 since) ∧ w'.cell? ⟨w.heap.size, 4, none⟩ = some (.int .i64 steps) ∧ w'.cell? ⟨w.heap.size, 5, none⟩ = some (.int .i64 busy) ∧ w'.cell? ⟨w.heap.size + 1, 0, none⟩ = some (.bool false) ∧ w'.cell? ⟨w.heap.size + 1, 1, none⟩ = some (.bool false) ∧ w'.cell? ⟨w.heap.size + 1, 2, none⟩ = some (.bool false) ∧ w'.cell? ⟨w.heap.size + 1, 3, none⟩ = some (.bool true) ∧ w'.cell? ⟨w.heap.size + 1, 4, none⟩ = some (.bool true) ∧ w'.cell? ⟨w.heap.size + 1, 5, none⟩ = some (.bool i) ∧ w'.cell? ⟨w.heap.size + 1, 6, none⟩ = some (.bool m) ∧ w'.cell? ⟨w.heap.size + 1, 7, none⟩ = some (.bool k) ∧ w'.cell? ⟨w.heap.size + 1, 8, none⟩ = some (.bool d) ∧ Below w.heap.size w w')
    (first
      | go_keep
      | (go_split_ands
         refine ⟨?_, ?_, ?_, ?_, ?_, ?_, ?_, ?_, ?_, ?_, ?_, ?_, ?_, ?_, ?_, ?_⟩
         all_goals first | exact keepcell hb (by assumption) | exact keepbelow (by assumption) hb))
    (first
      | (go_at_call 27; refine (cores_any _ _ _ _ _ _ _).mono ?_; rintro e w1 ⟨rfl, hb⟩)
      | (go_at_call 28; refine (given_any _ _ _ _ _ _ _ _ _ _).mono ?_; rintro e w1 ⟨rfl, hb⟩)
      | (go_at_call 26; refine (next_lit (0) _ _ _ _ _ _ _ _ _ _ _ _ _ _ _ rfl _).mono ?_; rintro e w1 ⟨rfl, hb⟩))
  rename_i hH
  obtain ⟨c0, c1, c2, c3, c4, c5, c6, c7, c8, c9, c10, c11, c12, c13, c14, hB⟩ := hH
  have HB := Lib.hid hB
  clear hB
  go_wp2_with (go_at_call 30; refine (known_ok _).mono ?_; rintro e w9 ⟨rfl, hb9⟩)
  all_goals
    go_returns
    exact ⟨rfl, HB.out.trans (hb9.mono HB.out.size)⟩

set_option maxRecDepth 100000 in
set_option maxHeartbeats 4000000 in
theorem st8 (way since steps busy : Int) (m k d idle : Bool) (w : World) :
    Calls Try.prog 8 #[.agg #[.bool false, .bool idle, .int .i64 way, .int .i64 since, .int .i64 steps, .int .i64 busy], .agg #[.bool false, .bool false, .bool false, .bool true, .bool false, .bool true, .bool m, .bool k, .bool d]] w fun e w' => e = .returned (.bool true) ∧ Below w.heap.size w w' := by
  go_enter Try.func8, Try.ntmps8
  go_wp2_with fail
  have hB0 : Below w.heap.size w ((w.alloc (.cells #[.bool false, .bool idle, .int .i64 way, .int .i64 since, .int .i64 steps, .int .i64 busy] 48)).alloc (.cells #[.bool false, .bool false, .bool false, .bool true, .bool false, .bool true, .bool m, .bool k, .bool d] 50)).drew := by go_grown
  go_region_held3 (fun w' => w'.cell? ⟨w.heap.size, 0, none⟩ = some (.bool false) ∧ w'.cell? ⟨w.heap.size, 1, none⟩ = some (.bool idle) ∧ w'.cell? ⟨w.heap.size, 2, none⟩ = some (.int .i64 way) ∧ w'.cell? ⟨w.heap.size, 3, none⟩ = some (.int .i64 since) ∧ w'.cell? ⟨w.heap.size, 4, none⟩ = some (.int .i64 steps) ∧ w'.cell? ⟨w.heap.size, 5, none⟩ = some (.int .i64 busy) ∧ w'.cell? ⟨w.heap.size + 1, 0, none⟩ = some (.bool false) ∧ w'.cell? ⟨w.heap.size + 1, 1, none⟩ = some (.bool false) ∧ w'.cell? ⟨w.heap.size + 1, 2, none⟩ = some (.bool false) ∧ w'.cell? ⟨w.heap.size + 1, 3, none⟩ = some (.bool true) ∧ w'.cell? ⟨w.heap.size + 1, 4, none⟩ = some (.bool false) ∧ w'.cell? ⟨w.heap.size + 1, 5, none⟩ = some (.bool true) ∧ w'.cell? ⟨w.heap.size + 1, 6, none⟩ = some (.bool m) ∧ w'.cell? ⟨w.heap.size + 1, 7, none⟩ = some (.bool k) ∧ w'.cell? ⟨w.heap.size + 1, 8, none⟩ = some (.bool d) ∧ Below w.heap.size w w')
    (first
      | go_keep
      | (go_split_ands
         refine ⟨?_, ?_, ?_, ?_, ?_, ?_, ?_, ?_, ?_, ?_, ?_, ?_, ?_, ?_, ?_, ?_⟩
         all_goals first | exact keepcell hb (by assumption) | exact keepbelow (by assumption) hb))
    (first
      | (go_at_call 27; refine (cores_any _ _ _ _ _ _ _).mono ?_; rintro e w1 ⟨rfl, hb⟩)
      | (go_at_call 28; refine (given_any _ _ _ _ _ _ _ _ _ _).mono ?_; rintro e w1 ⟨rfl, hb⟩)
      | (go_at_call 26; refine (next_lit (0) _ _ _ _ _ _ _ _ _ _ _ _ _ _ _ rfl _).mono ?_; rintro e w1 ⟨rfl, hb⟩))
  rename_i hH
  obtain ⟨c0, c1, c2, c3, c4, c5, c6, c7, c8, c9, c10, c11, c12, c13, c14, hB⟩ := hH
  have HB := Lib.hid hB
  clear hB
  go_wp2_with (go_at_call 30; refine (known_ok _).mono ?_; rintro e w9 ⟨rfl, hb9⟩)
  all_goals
    go_returns
    exact ⟨rfl, HB.out.trans (hb9.mono HB.out.size)⟩

set_option maxRecDepth 100000 in
set_option maxHeartbeats 4000000 in
theorem st9 (way since steps busy : Int) (k d idle : Bool) (w : World) :
    Calls Try.prog 8 #[.agg #[.bool false, .bool idle, .int .i64 way, .int .i64 since, .int .i64 steps, .int .i64 busy], .agg #[.bool false, .bool false, .bool false, .bool true, .bool false, .bool false, .bool true, .bool k, .bool d]] w fun e w' => e = .returned (.bool true) ∧ Below w.heap.size w w' := by
  go_enter Try.func8, Try.ntmps8
  go_wp2_with fail
  have hB0 : Below w.heap.size w ((w.alloc (.cells #[.bool false, .bool idle, .int .i64 way, .int .i64 since, .int .i64 steps, .int .i64 busy] 48)).alloc (.cells #[.bool false, .bool false, .bool false, .bool true, .bool false, .bool false, .bool true, .bool k, .bool d] 50)).drew := by go_grown
  go_region_held3 (fun w' => w'.cell? ⟨w.heap.size, 0, none⟩ = some (.bool false) ∧ w'.cell? ⟨w.heap.size, 1, none⟩ = some (.bool idle) ∧ w'.cell? ⟨w.heap.size, 2, none⟩ = some (.int .i64 way) ∧ w'.cell? ⟨w.heap.size, 3, none⟩ = some (.int .i64 since) ∧ w'.cell? ⟨w.heap.size, 4, none⟩ = some (.int .i64 steps) ∧ w'.cell? ⟨w.heap.size, 5, none⟩ = some (.int .i64 busy) ∧ w'.cell? ⟨w.heap.size + 1, 0, none⟩ = some (.bool false) ∧ w'.cell? ⟨w.heap.size + 1, 1, none⟩ = some (.bool false) ∧ w'.cell? ⟨w.heap.size + 1, 2, none⟩ = some (.bool false) ∧ w'.cell? ⟨w.heap.size + 1, 3, none⟩ = some (.bool true) ∧ w'.cell? ⟨w.heap.size + 1, 4, none⟩ = some (.bool false) ∧ w'.cell? ⟨w.heap.size + 1, 5, none⟩ = some (.bool false) ∧ w'.cell? ⟨w.heap.size + 1, 6, none⟩ = some (.bool true) ∧ w'.cell? ⟨w.heap.size + 1, 7, none⟩ = some (.bool k) ∧ w'.cell? ⟨w.heap.size + 1, 8, none⟩ = some (.bool d) ∧ Below w.heap.size w w')
    (first
      | go_keep
      | (go_split_ands
         refine ⟨?_, ?_, ?_, ?_, ?_, ?_, ?_, ?_, ?_, ?_, ?_, ?_, ?_, ?_, ?_, ?_⟩
         all_goals first | exact keepcell hb (by assumption) | exact keepbelow (by assumption) hb))
    (first
      | (go_at_call 27; refine (cores_any _ _ _ _ _ _ _).mono ?_; rintro e w1 ⟨rfl, hb⟩)
      | (go_at_call 28; refine (given_any _ _ _ _ _ _ _ _ _ _).mono ?_; rintro e w1 ⟨rfl, hb⟩)
      | (go_at_call 26; refine (next_lit (0) _ _ _ _ _ _ _ _ _ _ _ _ _ _ _ rfl _).mono ?_; rintro e w1 ⟨rfl, hb⟩))
  rename_i hH
  obtain ⟨c0, c1, c2, c3, c4, c5, c6, c7, c8, c9, c10, c11, c12, c13, c14, hB⟩ := hH
  have HB := Lib.hid hB
  clear hB
  go_wp2_with (go_at_call 30; refine (known_ok _).mono ?_; rintro e w9 ⟨rfl, hb9⟩)
  all_goals
    go_returns
    exact ⟨rfl, HB.out.trans (hb9.mono HB.out.size)⟩

set_option maxRecDepth 100000 in
set_option maxHeartbeats 4000000 in
theorem st10 (way since steps busy : Int) (d idle : Bool) (w : World) :
    Calls Try.prog 8 #[.agg #[.bool false, .bool idle, .int .i64 way, .int .i64 since, .int .i64 steps, .int .i64 busy], .agg #[.bool false, .bool false, .bool false, .bool true, .bool false, .bool false, .bool false, .bool true, .bool d]] w fun e w' => e = .returned (.bool true) ∧ Below w.heap.size w w' := by
  go_enter Try.func8, Try.ntmps8
  go_wp2_with fail
  have hB0 : Below w.heap.size w ((w.alloc (.cells #[.bool false, .bool idle, .int .i64 way, .int .i64 since, .int .i64 steps, .int .i64 busy] 48)).alloc (.cells #[.bool false, .bool false, .bool false, .bool true, .bool false, .bool false, .bool false, .bool true, .bool d] 50)).drew := by go_grown
  go_region_held3 (fun w' => w'.cell? ⟨w.heap.size, 0, none⟩ = some (.bool false) ∧ w'.cell? ⟨w.heap.size, 1, none⟩ = some (.bool idle) ∧ w'.cell? ⟨w.heap.size, 2, none⟩ = some (.int .i64 way) ∧ w'.cell? ⟨w.heap.size, 3, none⟩ = some (.int .i64 since) ∧ w'.cell? ⟨w.heap.size, 4, none⟩ = some (.int .i64 steps) ∧ w'.cell? ⟨w.heap.size, 5, none⟩ = some (.int .i64 busy) ∧ w'.cell? ⟨w.heap.size + 1, 0, none⟩ = some (.bool false) ∧ w'.cell? ⟨w.heap.size + 1, 1, none⟩ = some (.bool false) ∧ w'.cell? ⟨w.heap.size + 1, 2, none⟩ = some (.bool false) ∧ w'.cell? ⟨w.heap.size + 1, 3, none⟩ = some (.bool true) ∧ w'.cell? ⟨w.heap.size + 1, 4, none⟩ = some (.bool false) ∧ w'.cell? ⟨w.heap.size + 1, 5, none⟩ = some (.bool false) ∧ w'.cell? ⟨w.heap.size + 1, 6, none⟩ = some (.bool false) ∧ w'.cell? ⟨w.heap.size + 1, 7, none⟩ = some (.bool true) ∧ w'.cell? ⟨w.heap.size + 1, 8, none⟩ = some (.bool d) ∧ Below w.heap.size w w')
    (first
      | go_keep
      | (go_split_ands
         refine ⟨?_, ?_, ?_, ?_, ?_, ?_, ?_, ?_, ?_, ?_, ?_, ?_, ?_, ?_, ?_, ?_⟩
         all_goals first | exact keepcell hb (by assumption) | exact keepbelow (by assumption) hb))
    (first
      | (go_at_call 27; refine (cores_any _ _ _ _ _ _ _).mono ?_; rintro e w1 ⟨rfl, hb⟩)
      | (go_at_call 28; refine (given_any _ _ _ _ _ _ _ _ _ _).mono ?_; rintro e w1 ⟨rfl, hb⟩)
      | (go_at_call 26; refine (next_lit (0) _ _ _ _ _ _ _ _ _ _ _ _ _ _ _ rfl _).mono ?_; rintro e w1 ⟨rfl, hb⟩))
  rename_i hH
  obtain ⟨c0, c1, c2, c3, c4, c5, c6, c7, c8, c9, c10, c11, c12, c13, c14, hB⟩ := hH
  have HB := Lib.hid hB
  clear hB
  go_wp2_with (go_at_call 30; refine (known_ok _).mono ?_; rintro e w9 ⟨rfl, hb9⟩)
  all_goals
    go_returns
    exact ⟨rfl, HB.out.trans (hb9.mono HB.out.size)⟩

set_option maxRecDepth 100000 in
set_option maxHeartbeats 4000000 in
theorem st11 (way since steps busy : Int) (idle : Bool) (w : World) :
    Calls Try.prog 8 #[.agg #[.bool false, .bool idle, .int .i64 way, .int .i64 since, .int .i64 steps, .int .i64 busy], .agg #[.bool false, .bool false, .bool false, .bool true, .bool false, .bool false, .bool false, .bool false, .bool true]] w fun e w' => e = .returned (.bool true) ∧ Below w.heap.size w w' := by
  go_enter Try.func8, Try.ntmps8
  go_wp2_with fail
  have hB0 : Below w.heap.size w ((w.alloc (.cells #[.bool false, .bool idle, .int .i64 way, .int .i64 since, .int .i64 steps, .int .i64 busy] 48)).alloc (.cells #[.bool false, .bool false, .bool false, .bool true, .bool false, .bool false, .bool false, .bool false, .bool true] 50)).drew := by go_grown
  go_region_held3 (fun w' => w'.cell? ⟨w.heap.size, 0, none⟩ = some (.bool false) ∧ w'.cell? ⟨w.heap.size, 1, none⟩ = some (.bool idle) ∧ w'.cell? ⟨w.heap.size, 2, none⟩ = some (.int .i64 way) ∧ w'.cell? ⟨w.heap.size, 3, none⟩ = some (.int .i64 since) ∧ w'.cell? ⟨w.heap.size, 4, none⟩ = some (.int .i64 steps) ∧ w'.cell? ⟨w.heap.size, 5, none⟩ = some (.int .i64 busy) ∧ w'.cell? ⟨w.heap.size + 1, 0, none⟩ = some (.bool false) ∧ w'.cell? ⟨w.heap.size + 1, 1, none⟩ = some (.bool false) ∧ w'.cell? ⟨w.heap.size + 1, 2, none⟩ = some (.bool false) ∧ w'.cell? ⟨w.heap.size + 1, 3, none⟩ = some (.bool true) ∧ w'.cell? ⟨w.heap.size + 1, 4, none⟩ = some (.bool false) ∧ w'.cell? ⟨w.heap.size + 1, 5, none⟩ = some (.bool false) ∧ w'.cell? ⟨w.heap.size + 1, 6, none⟩ = some (.bool false) ∧ w'.cell? ⟨w.heap.size + 1, 7, none⟩ = some (.bool false) ∧ w'.cell? ⟨w.heap.size + 1, 8, none⟩ = some (.bool true) ∧ Below w.heap.size w w')
    (first
      | go_keep
      | (go_split_ands
         refine ⟨?_, ?_, ?_, ?_, ?_, ?_, ?_, ?_, ?_, ?_, ?_, ?_, ?_, ?_, ?_, ?_⟩
         all_goals first | exact keepcell hb (by assumption) | exact keepbelow (by assumption) hb))
    (first
      | (go_at_call 27; refine (cores_any _ _ _ _ _ _ _).mono ?_; rintro e w1 ⟨rfl, hb⟩)
      | (go_at_call 28; refine (given_any _ _ _ _ _ _ _ _ _ _).mono ?_; rintro e w1 ⟨rfl, hb⟩)
      | (go_at_call 26; refine (next_lit (0) _ _ _ _ _ _ _ _ _ _ _ _ _ _ _ rfl _).mono ?_; rintro e w1 ⟨rfl, hb⟩))
  rename_i hH
  obtain ⟨c0, c1, c2, c3, c4, c5, c6, c7, c8, c9, c10, c11, c12, c13, c14, hB⟩ := hH
  have HB := Lib.hid hB
  clear hB
  go_wp2_with (go_at_call 30; refine (known_ok _).mono ?_; rintro e w9 ⟨rfl, hb9⟩)
  all_goals
    go_returns
    exact ⟨rfl, HB.out.trans (hb9.mono HB.out.size)⟩

set_option maxRecDepth 100000 in
set_option maxHeartbeats 4000000 in
theorem st12 (way since steps busy : Int) (idle : Bool) (w : World) :
    Calls Try.prog 8 #[.agg #[.bool false, .bool idle, .int .i64 way, .int .i64 since, .int .i64 steps, .int .i64 busy], .agg #[.bool false, .bool false, .bool false, .bool true, .bool false, .bool false, .bool false, .bool false, .bool false]] w fun e w' => e = .returned (.bool true) ∧ Below w.heap.size w w' := by
  go_enter Try.func8, Try.ntmps8
  go_wp2_with fail
  have hB0 : Below w.heap.size w ((w.alloc (.cells #[.bool false, .bool idle, .int .i64 way, .int .i64 since, .int .i64 steps, .int .i64 busy] 48)).alloc (.cells #[.bool false, .bool false, .bool false, .bool true, .bool false, .bool false, .bool false, .bool false, .bool false] 50)).drew := by go_grown
  go_region_held3 (fun w' => w'.cell? ⟨w.heap.size, 0, none⟩ = some (.bool false) ∧ w'.cell? ⟨w.heap.size, 1, none⟩ = some (.bool idle) ∧ w'.cell? ⟨w.heap.size, 2, none⟩ = some (.int .i64 way) ∧ w'.cell? ⟨w.heap.size, 3, none⟩ = some (.int .i64 since) ∧ w'.cell? ⟨w.heap.size, 4, none⟩ = some (.int .i64 steps) ∧ w'.cell? ⟨w.heap.size, 5, none⟩ = some (.int .i64 busy) ∧ w'.cell? ⟨w.heap.size + 1, 0, none⟩ = some (.bool false) ∧ w'.cell? ⟨w.heap.size + 1, 1, none⟩ = some (.bool false) ∧ w'.cell? ⟨w.heap.size + 1, 2, none⟩ = some (.bool false) ∧ w'.cell? ⟨w.heap.size + 1, 3, none⟩ = some (.bool true) ∧ w'.cell? ⟨w.heap.size + 1, 4, none⟩ = some (.bool false) ∧ w'.cell? ⟨w.heap.size + 1, 5, none⟩ = some (.bool false) ∧ w'.cell? ⟨w.heap.size + 1, 6, none⟩ = some (.bool false) ∧ w'.cell? ⟨w.heap.size + 1, 7, none⟩ = some (.bool false) ∧ w'.cell? ⟨w.heap.size + 1, 8, none⟩ = some (.bool false) ∧ Below w.heap.size w w')
    (first
      | go_keep
      | (go_split_ands
         refine ⟨?_, ?_, ?_, ?_, ?_, ?_, ?_, ?_, ?_, ?_, ?_, ?_, ?_, ?_, ?_, ?_⟩
         all_goals first | exact keepcell hb (by assumption) | exact keepbelow (by assumption) hb))
    (first
      | (go_at_call 27; refine (cores_any _ _ _ _ _ _ _).mono ?_; rintro e w1 ⟨rfl, hb⟩)
      | (go_at_call 28; refine (given_any _ _ _ _ _ _ _ _ _ _).mono ?_; rintro e w1 ⟨rfl, hb⟩)
      | (go_at_call 26; refine (next_lit (0) _ _ _ _ _ _ _ _ _ _ _ _ _ _ _ rfl _).mono ?_; rintro e w1 ⟨rfl, hb⟩))
  rename_i hH
  obtain ⟨c0, c1, c2, c3, c4, c5, c6, c7, c8, c9, c10, c11, c12, c13, c14, hB⟩ := hH
  have HB := Lib.hid hB
  clear hB
  go_wp2_with (go_at_call 30; refine (known_ok _).mono ?_; rintro e w9 ⟨rfl, hb9⟩)
  all_goals
    go_returns
    exact ⟨rfl, HB.out.trans (hb9.mono HB.out.size)⟩

set_option maxRecDepth 100000 in
set_option maxHeartbeats 4000000 in
theorem st13 (way since steps busy : Int) (h t c i m k d : Bool) (w : World) :
    Calls Try.prog 8 #[.agg #[.bool true, .bool false, .int .i64 way, .int .i64 since, .int .i64 steps, .int .i64 busy], .agg #[.bool true, .bool h, .bool t, .bool true, .bool c, .bool i, .bool m, .bool k, .bool d]] w fun e w' => e = .returned (.bool true) ∧ Below w.heap.size w w' := by
  go_enter Try.func8, Try.ntmps8
  go_wp2_with fail
  have hB0 : Below w.heap.size w ((w.alloc (.cells #[.bool true, .bool false, .int .i64 way, .int .i64 since, .int .i64 steps, .int .i64 busy] 48)).alloc (.cells #[.bool true, .bool h, .bool t, .bool true, .bool c, .bool i, .bool m, .bool k, .bool d] 50)).drew := by go_grown
  go_region_held3 (fun w' => w'.cell? ⟨w.heap.size, 0, none⟩ = some (.bool true) ∧ w'.cell? ⟨w.heap.size, 1, none⟩ = some (.bool false) ∧ w'.cell? ⟨w.heap.size, 2, none⟩ = some (.int .i64 way) ∧ w'.cell? ⟨w.heap.size, 3, none⟩ = some (.int .i64 since) ∧ w'.cell? ⟨w.heap.size, 4, none⟩ = some (.int .i64 steps) ∧ w'.cell? ⟨w.heap.size, 5, none⟩ = some (.int .i64 busy) ∧ w'.cell? ⟨w.heap.size + 1, 0, none⟩ = some (.bool true) ∧ w'.cell? ⟨w.heap.size + 1, 1, none⟩ = some (.bool h) ∧ w'.cell? ⟨w.heap.size + 1, 2, none⟩ = some (.bool t) ∧ w'.cell? ⟨w.heap.size + 1, 3, none⟩ = some (.bool true) ∧ w'.cell? ⟨w.heap.size + 1, 4, none⟩ = some (.bool c) ∧ w'.cell? ⟨w.heap.size + 1, 5, none⟩ = some (.bool i) ∧ w'.cell? ⟨w.heap.size + 1, 6, none⟩ = some (.bool m) ∧ w'.cell? ⟨w.heap.size + 1, 7, none⟩ = some (.bool k) ∧ w'.cell? ⟨w.heap.size + 1, 8, none⟩ = some (.bool d) ∧ Below w.heap.size w w')
    (first
      | go_keep
      | (go_split_ands
         refine ⟨?_, ?_, ?_, ?_, ?_, ?_, ?_, ?_, ?_, ?_, ?_, ?_, ?_, ?_, ?_, ?_⟩
         all_goals first | exact keepcell hb (by assumption) | exact keepbelow (by assumption) hb))
    (first
      | (go_at_call 27; refine (cores_any _ _ _ _ _ _ _).mono ?_; rintro e w1 ⟨rfl, hb⟩)
      | (go_at_call 28; refine (given_any _ _ _ _ _ _ _ _ _ _).mono ?_; rintro e w1 ⟨rfl, hb⟩)
      | (go_at_call 26; refine (next_lit (2) _ _ _ _ _ _ _ _ _ _ _ _ _ _ _ rfl _).mono ?_; rintro e w1 ⟨rfl, hb⟩))
  rename_i hH
  obtain ⟨c0, c1, c2, c3, c4, c5, c6, c7, c8, c9, c10, c11, c12, c13, c14, hB⟩ := hH
  have HB := Lib.hid hB
  clear hB
  go_wp2_with (go_at_call 30; refine (known_ok _).mono ?_; rintro e w9 ⟨rfl, hb9⟩)
  all_goals
    go_returns
    exact ⟨rfl, HB.out.trans (hb9.mono HB.out.size)⟩

set_option maxRecDepth 100000 in
set_option maxHeartbeats 4000000 in
theorem st14 (way since steps busy : Int) (h t c i m k d : Bool) (w : World) :
    Calls Try.prog 8 #[.agg #[.bool true, .bool false, .int .i64 way, .int .i64 since, .int .i64 steps, .int .i64 busy], .agg #[.bool true, .bool h, .bool t, .bool false, .bool c, .bool i, .bool m, .bool k, .bool d]] w fun e w' => e = .returned (.bool true) ∧ Below w.heap.size w w' := by
  go_enter Try.func8, Try.ntmps8
  go_wp2_with fail
  have hB0 : Below w.heap.size w ((w.alloc (.cells #[.bool true, .bool false, .int .i64 way, .int .i64 since, .int .i64 steps, .int .i64 busy] 48)).alloc (.cells #[.bool true, .bool h, .bool t, .bool false, .bool c, .bool i, .bool m, .bool k, .bool d] 50)).drew := by go_grown
  go_region_held3 (fun w' => w'.cell? ⟨w.heap.size, 0, none⟩ = some (.bool true) ∧ w'.cell? ⟨w.heap.size, 1, none⟩ = some (.bool false) ∧ w'.cell? ⟨w.heap.size, 2, none⟩ = some (.int .i64 way) ∧ w'.cell? ⟨w.heap.size, 3, none⟩ = some (.int .i64 since) ∧ w'.cell? ⟨w.heap.size, 4, none⟩ = some (.int .i64 steps) ∧ w'.cell? ⟨w.heap.size, 5, none⟩ = some (.int .i64 busy) ∧ w'.cell? ⟨w.heap.size + 1, 0, none⟩ = some (.bool true) ∧ w'.cell? ⟨w.heap.size + 1, 1, none⟩ = some (.bool h) ∧ w'.cell? ⟨w.heap.size + 1, 2, none⟩ = some (.bool t) ∧ w'.cell? ⟨w.heap.size + 1, 3, none⟩ = some (.bool false) ∧ w'.cell? ⟨w.heap.size + 1, 4, none⟩ = some (.bool c) ∧ w'.cell? ⟨w.heap.size + 1, 5, none⟩ = some (.bool i) ∧ w'.cell? ⟨w.heap.size + 1, 6, none⟩ = some (.bool m) ∧ w'.cell? ⟨w.heap.size + 1, 7, none⟩ = some (.bool k) ∧ w'.cell? ⟨w.heap.size + 1, 8, none⟩ = some (.bool d) ∧ Below w.heap.size w w')
    (first
      | go_keep
      | (go_split_ands
         refine ⟨?_, ?_, ?_, ?_, ?_, ?_, ?_, ?_, ?_, ?_, ?_, ?_, ?_, ?_, ?_, ?_⟩
         all_goals first | exact keepcell hb (by assumption) | exact keepbelow (by assumption) hb))
    (first
      | (go_at_call 27; refine (cores_any _ _ _ _ _ _ _).mono ?_; rintro e w1 ⟨rfl, hb⟩)
      | (go_at_call 28; refine (given_any _ _ _ _ _ _ _ _ _ _).mono ?_; rintro e w1 ⟨rfl, hb⟩)
      | (go_at_call 26; refine (next_lit (2) _ _ _ _ _ _ _ _ _ _ _ _ _ _ _ rfl _).mono ?_; rintro e w1 ⟨rfl, hb⟩))
  rename_i hH
  obtain ⟨c0, c1, c2, c3, c4, c5, c6, c7, c8, c9, c10, c11, c12, c13, c14, hB⟩ := hH
  have HB := Lib.hid hB
  clear hB
  go_wp2_with (go_at_call 30; refine (known_ok _).mono ?_; rintro e w9 ⟨rfl, hb9⟩)
  all_goals
    go_returns
    exact ⟨rfl, HB.out.trans (hb9.mono HB.out.size)⟩

set_option maxRecDepth 100000 in
set_option maxHeartbeats 4000000 in
theorem st15 (way since steps busy : Int) (h c i m k d : Bool) (w : World) :
    Calls Try.prog 8 #[.agg #[.bool true, .bool false, .int .i64 way, .int .i64 since, .int .i64 steps, .int .i64 busy], .agg #[.bool false, .bool h, .bool true, .bool true, .bool c, .bool i, .bool m, .bool k, .bool d]] w fun e w' => e = .returned (.bool true) ∧ Below w.heap.size w w' := by
  go_enter Try.func8, Try.ntmps8
  go_wp2_with fail
  have hB0 : Below w.heap.size w ((w.alloc (.cells #[.bool true, .bool false, .int .i64 way, .int .i64 since, .int .i64 steps, .int .i64 busy] 48)).alloc (.cells #[.bool false, .bool h, .bool true, .bool true, .bool c, .bool i, .bool m, .bool k, .bool d] 50)).drew := by go_grown
  go_region_held3 (fun w' => w'.cell? ⟨w.heap.size, 0, none⟩ = some (.bool true) ∧ w'.cell? ⟨w.heap.size, 1, none⟩ = some (.bool false) ∧ w'.cell? ⟨w.heap.size, 2, none⟩ = some (.int .i64 way) ∧ w'.cell? ⟨w.heap.size, 3, none⟩ = some (.int .i64 since) ∧ w'.cell? ⟨w.heap.size, 4, none⟩ = some (.int .i64 steps) ∧ w'.cell? ⟨w.heap.size, 5, none⟩ = some (.int .i64 busy) ∧ w'.cell? ⟨w.heap.size + 1, 0, none⟩ = some (.bool false) ∧ w'.cell? ⟨w.heap.size + 1, 1, none⟩ = some (.bool h) ∧ w'.cell? ⟨w.heap.size + 1, 2, none⟩ = some (.bool true) ∧ w'.cell? ⟨w.heap.size + 1, 3, none⟩ = some (.bool true) ∧ w'.cell? ⟨w.heap.size + 1, 4, none⟩ = some (.bool c) ∧ w'.cell? ⟨w.heap.size + 1, 5, none⟩ = some (.bool i) ∧ w'.cell? ⟨w.heap.size + 1, 6, none⟩ = some (.bool m) ∧ w'.cell? ⟨w.heap.size + 1, 7, none⟩ = some (.bool k) ∧ w'.cell? ⟨w.heap.size + 1, 8, none⟩ = some (.bool d) ∧ Below w.heap.size w w')
    (first
      | go_keep
      | (go_split_ands
         refine ⟨?_, ?_, ?_, ?_, ?_, ?_, ?_, ?_, ?_, ?_, ?_, ?_, ?_, ?_, ?_, ?_⟩
         all_goals first | exact keepcell hb (by assumption) | exact keepbelow (by assumption) hb))
    (first
      | (go_at_call 27; refine (cores_any _ _ _ _ _ _ _).mono ?_; rintro e w1 ⟨rfl, hb⟩)
      | (go_at_call 28; refine (given_any _ _ _ _ _ _ _ _ _ _).mono ?_; rintro e w1 ⟨rfl, hb⟩)
      | (go_at_call 26; refine (next_lit (3) _ _ _ _ _ _ _ _ _ _ _ _ _ _ _ rfl _).mono ?_; rintro e w1 ⟨rfl, hb⟩))
  rename_i hH
  obtain ⟨c0, c1, c2, c3, c4, c5, c6, c7, c8, c9, c10, c11, c12, c13, c14, hB⟩ := hH
  have HB := Lib.hid hB
  clear hB
  go_wp2_with (go_at_call 30; refine (known_ok _).mono ?_; rintro e w9 ⟨rfl, hb9⟩)
  all_goals
    go_returns
    exact ⟨rfl, HB.out.trans (hb9.mono HB.out.size)⟩

set_option maxRecDepth 100000 in
set_option maxHeartbeats 4000000 in
theorem st16 (way since steps busy : Int) (h c i m k d : Bool) (w : World) :
    Calls Try.prog 8 #[.agg #[.bool true, .bool false, .int .i64 way, .int .i64 since, .int .i64 steps, .int .i64 busy], .agg #[.bool false, .bool h, .bool true, .bool false, .bool c, .bool i, .bool m, .bool k, .bool d]] w fun e w' => e = .returned (.bool true) ∧ Below w.heap.size w w' := by
  go_enter Try.func8, Try.ntmps8
  go_wp2_with fail
  have hB0 : Below w.heap.size w ((w.alloc (.cells #[.bool true, .bool false, .int .i64 way, .int .i64 since, .int .i64 steps, .int .i64 busy] 48)).alloc (.cells #[.bool false, .bool h, .bool true, .bool false, .bool c, .bool i, .bool m, .bool k, .bool d] 50)).drew := by go_grown
  go_region_held3 (fun w' => w'.cell? ⟨w.heap.size, 0, none⟩ = some (.bool true) ∧ w'.cell? ⟨w.heap.size, 1, none⟩ = some (.bool false) ∧ w'.cell? ⟨w.heap.size, 2, none⟩ = some (.int .i64 way) ∧ w'.cell? ⟨w.heap.size, 3, none⟩ = some (.int .i64 since) ∧ w'.cell? ⟨w.heap.size, 4, none⟩ = some (.int .i64 steps) ∧ w'.cell? ⟨w.heap.size, 5, none⟩ = some (.int .i64 busy) ∧ w'.cell? ⟨w.heap.size + 1, 0, none⟩ = some (.bool false) ∧ w'.cell? ⟨w.heap.size + 1, 1, none⟩ = some (.bool h) ∧ w'.cell? ⟨w.heap.size + 1, 2, none⟩ = some (.bool true) ∧ w'.cell? ⟨w.heap.size + 1, 3, none⟩ = some (.bool false) ∧ w'.cell? ⟨w.heap.size + 1, 4, none⟩ = some (.bool c) ∧ w'.cell? ⟨w.heap.size + 1, 5, none⟩ = some (.bool i) ∧ w'.cell? ⟨w.heap.size + 1, 6, none⟩ = some (.bool m) ∧ w'.cell? ⟨w.heap.size + 1, 7, none⟩ = some (.bool k) ∧ w'.cell? ⟨w.heap.size + 1, 8, none⟩ = some (.bool d) ∧ Below w.heap.size w w')
    (first
      | go_keep
      | (go_split_ands
         refine ⟨?_, ?_, ?_, ?_, ?_, ?_, ?_, ?_, ?_, ?_, ?_, ?_, ?_, ?_, ?_, ?_⟩
         all_goals first | exact keepcell hb (by assumption) | exact keepbelow (by assumption) hb))
    (first
      | (go_at_call 27; refine (cores_any _ _ _ _ _ _ _).mono ?_; rintro e w1 ⟨rfl, hb⟩)
      | (go_at_call 28; refine (given_any _ _ _ _ _ _ _ _ _ _).mono ?_; rintro e w1 ⟨rfl, hb⟩)
      | (go_at_call 26; refine (next_lit (3) _ _ _ _ _ _ _ _ _ _ _ _ _ _ _ rfl _).mono ?_; rintro e w1 ⟨rfl, hb⟩))
  rename_i hH
  obtain ⟨c0, c1, c2, c3, c4, c5, c6, c7, c8, c9, c10, c11, c12, c13, c14, hB⟩ := hH
  have HB := Lib.hid hB
  clear hB
  go_wp2_with (go_at_call 30; refine (known_ok _).mono ?_; rintro e w9 ⟨rfl, hb9⟩)
  all_goals
    go_returns
    exact ⟨rfl, HB.out.trans (hb9.mono HB.out.size)⟩

set_option maxRecDepth 100000 in
set_option maxHeartbeats 4000000 in
theorem st17 (way since steps busy : Int) (c i m k d : Bool) (w : World) :
    Calls Try.prog 8 #[.agg #[.bool true, .bool false, .int .i64 way, .int .i64 since, .int .i64 steps, .int .i64 busy], .agg #[.bool false, .bool true, .bool false, .bool true, .bool c, .bool i, .bool m, .bool k, .bool d]] w fun e w' => e = .returned (.bool true) ∧ Below w.heap.size w w' := by
  go_enter Try.func8, Try.ntmps8
  go_wp2_with fail
  have hB0 : Below w.heap.size w ((w.alloc (.cells #[.bool true, .bool false, .int .i64 way, .int .i64 since, .int .i64 steps, .int .i64 busy] 48)).alloc (.cells #[.bool false, .bool true, .bool false, .bool true, .bool c, .bool i, .bool m, .bool k, .bool d] 50)).drew := by go_grown
  go_region_held3 (fun w' => w'.cell? ⟨w.heap.size, 0, none⟩ = some (.bool true) ∧ w'.cell? ⟨w.heap.size, 1, none⟩ = some (.bool false) ∧ w'.cell? ⟨w.heap.size, 2, none⟩ = some (.int .i64 way) ∧ w'.cell? ⟨w.heap.size, 3, none⟩ = some (.int .i64 since) ∧ w'.cell? ⟨w.heap.size, 4, none⟩ = some (.int .i64 steps) ∧ w'.cell? ⟨w.heap.size, 5, none⟩ = some (.int .i64 busy) ∧ w'.cell? ⟨w.heap.size + 1, 0, none⟩ = some (.bool false) ∧ w'.cell? ⟨w.heap.size + 1, 1, none⟩ = some (.bool true) ∧ w'.cell? ⟨w.heap.size + 1, 2, none⟩ = some (.bool false) ∧ w'.cell? ⟨w.heap.size + 1, 3, none⟩ = some (.bool true) ∧ w'.cell? ⟨w.heap.size + 1, 4, none⟩ = some (.bool c) ∧ w'.cell? ⟨w.heap.size + 1, 5, none⟩ = some (.bool i) ∧ w'.cell? ⟨w.heap.size + 1, 6, none⟩ = some (.bool m) ∧ w'.cell? ⟨w.heap.size + 1, 7, none⟩ = some (.bool k) ∧ w'.cell? ⟨w.heap.size + 1, 8, none⟩ = some (.bool d) ∧ Below w.heap.size w w')
    (first
      | go_keep
      | (go_split_ands
         refine ⟨?_, ?_, ?_, ?_, ?_, ?_, ?_, ?_, ?_, ?_, ?_, ?_, ?_, ?_, ?_, ?_⟩
         all_goals first | exact keepcell hb (by assumption) | exact keepbelow (by assumption) hb))
    (first
      | (go_at_call 27; refine (cores_any _ _ _ _ _ _ _).mono ?_; rintro e w1 ⟨rfl, hb⟩)
      | (go_at_call 28; refine (given_any _ _ _ _ _ _ _ _ _ _).mono ?_; rintro e w1 ⟨rfl, hb⟩)
      | (go_at_call 26; refine (next_lit (0) _ _ _ _ _ _ _ _ _ _ _ _ _ _ _ rfl _).mono ?_; rintro e w1 ⟨rfl, hb⟩))
  rename_i hH
  obtain ⟨c0, c1, c2, c3, c4, c5, c6, c7, c8, c9, c10, c11, c12, c13, c14, hB⟩ := hH
  have HB := Lib.hid hB
  clear hB
  go_wp2_with (go_at_call 30; refine (known_ok _).mono ?_; rintro e w9 ⟨rfl, hb9⟩)
  all_goals
    go_returns
    exact ⟨rfl, HB.out.trans (hb9.mono HB.out.size)⟩

set_option maxRecDepth 100000 in
set_option maxHeartbeats 4000000 in
theorem st18 (way since steps busy : Int) (c i m k d : Bool) (w : World) :
    Calls Try.prog 8 #[.agg #[.bool true, .bool false, .int .i64 way, .int .i64 since, .int .i64 steps, .int .i64 busy], .agg #[.bool false, .bool true, .bool false, .bool false, .bool c, .bool i, .bool m, .bool k, .bool d]] w fun e w' => e = .returned (.bool true) ∧ Below w.heap.size w w' := by
  go_enter Try.func8, Try.ntmps8
  go_wp2_with fail
  have hB0 : Below w.heap.size w ((w.alloc (.cells #[.bool true, .bool false, .int .i64 way, .int .i64 since, .int .i64 steps, .int .i64 busy] 48)).alloc (.cells #[.bool false, .bool true, .bool false, .bool false, .bool c, .bool i, .bool m, .bool k, .bool d] 50)).drew := by go_grown
  go_region_held3 (fun w' => w'.cell? ⟨w.heap.size, 0, none⟩ = some (.bool true) ∧ w'.cell? ⟨w.heap.size, 1, none⟩ = some (.bool false) ∧ w'.cell? ⟨w.heap.size, 2, none⟩ = some (.int .i64 way) ∧ w'.cell? ⟨w.heap.size, 3, none⟩ = some (.int .i64 since) ∧ w'.cell? ⟨w.heap.size, 4, none⟩ = some (.int .i64 steps) ∧ w'.cell? ⟨w.heap.size, 5, none⟩ = some (.int .i64 busy) ∧ w'.cell? ⟨w.heap.size + 1, 0, none⟩ = some (.bool false) ∧ w'.cell? ⟨w.heap.size + 1, 1, none⟩ = some (.bool true) ∧ w'.cell? ⟨w.heap.size + 1, 2, none⟩ = some (.bool false) ∧ w'.cell? ⟨w.heap.size + 1, 3, none⟩ = some (.bool false) ∧ w'.cell? ⟨w.heap.size + 1, 4, none⟩ = some (.bool c) ∧ w'.cell? ⟨w.heap.size + 1, 5, none⟩ = some (.bool i) ∧ w'.cell? ⟨w.heap.size + 1, 6, none⟩ = some (.bool m) ∧ w'.cell? ⟨w.heap.size + 1, 7, none⟩ = some (.bool k) ∧ w'.cell? ⟨w.heap.size + 1, 8, none⟩ = some (.bool d) ∧ Below w.heap.size w w')
    (first
      | go_keep
      | (go_split_ands
         refine ⟨?_, ?_, ?_, ?_, ?_, ?_, ?_, ?_, ?_, ?_, ?_, ?_, ?_, ?_, ?_, ?_⟩
         all_goals first | exact keepcell hb (by assumption) | exact keepbelow (by assumption) hb))
    (first
      | (go_at_call 27; refine (cores_any _ _ _ _ _ _ _).mono ?_; rintro e w1 ⟨rfl, hb⟩)
      | (go_at_call 28; refine (given_any _ _ _ _ _ _ _ _ _ _).mono ?_; rintro e w1 ⟨rfl, hb⟩)
      | (go_at_call 26; refine (next_lit (0) _ _ _ _ _ _ _ _ _ _ _ _ _ _ _ rfl _).mono ?_; rintro e w1 ⟨rfl, hb⟩))
  rename_i hH
  obtain ⟨c0, c1, c2, c3, c4, c5, c6, c7, c8, c9, c10, c11, c12, c13, c14, hB⟩ := hH
  have HB := Lib.hid hB
  clear hB
  go_wp2_with (go_at_call 30; refine (known_ok _).mono ?_; rintro e w9 ⟨rfl, hb9⟩)
  all_goals
    go_returns
    exact ⟨rfl, HB.out.trans (hb9.mono HB.out.size)⟩

set_option maxRecDepth 100000 in
set_option maxHeartbeats 4000000 in
theorem st19 (way since steps busy : Int) (c i m k d : Bool) (w : World) :
    Calls Try.prog 8 #[.agg #[.bool true, .bool false, .int .i64 way, .int .i64 since, .int .i64 steps, .int .i64 busy], .agg #[.bool false, .bool false, .bool false, .bool false, .bool c, .bool i, .bool m, .bool k, .bool d]] w fun e w' => e = .returned (.bool true) ∧ Below w.heap.size w w' := by
  go_enter Try.func8, Try.ntmps8
  go_wp2_with fail
  have hB0 : Below w.heap.size w ((w.alloc (.cells #[.bool true, .bool false, .int .i64 way, .int .i64 since, .int .i64 steps, .int .i64 busy] 48)).alloc (.cells #[.bool false, .bool false, .bool false, .bool false, .bool c, .bool i, .bool m, .bool k, .bool d] 50)).drew := by go_grown
  go_region_held3 (fun w' => w'.cell? ⟨w.heap.size, 0, none⟩ = some (.bool true) ∧ w'.cell? ⟨w.heap.size, 1, none⟩ = some (.bool false) ∧ w'.cell? ⟨w.heap.size, 2, none⟩ = some (.int .i64 way) ∧ w'.cell? ⟨w.heap.size, 3, none⟩ = some (.int .i64 since) ∧ w'.cell? ⟨w.heap.size, 4, none⟩ = some (.int .i64 steps) ∧ w'.cell? ⟨w.heap.size, 5, none⟩ = some (.int .i64 busy) ∧ w'.cell? ⟨w.heap.size + 1, 0, none⟩ = some (.bool false) ∧ w'.cell? ⟨w.heap.size + 1, 1, none⟩ = some (.bool false) ∧ w'.cell? ⟨w.heap.size + 1, 2, none⟩ = some (.bool false) ∧ w'.cell? ⟨w.heap.size + 1, 3, none⟩ = some (.bool false) ∧ w'.cell? ⟨w.heap.size + 1, 4, none⟩ = some (.bool c) ∧ w'.cell? ⟨w.heap.size + 1, 5, none⟩ = some (.bool i) ∧ w'.cell? ⟨w.heap.size + 1, 6, none⟩ = some (.bool m) ∧ w'.cell? ⟨w.heap.size + 1, 7, none⟩ = some (.bool k) ∧ w'.cell? ⟨w.heap.size + 1, 8, none⟩ = some (.bool d) ∧ Below w.heap.size w w')
    (first
      | go_keep
      | (go_split_ands
         refine ⟨?_, ?_, ?_, ?_, ?_, ?_, ?_, ?_, ?_, ?_, ?_, ?_, ?_, ?_, ?_, ?_⟩
         all_goals first | exact keepcell hb (by assumption) | exact keepbelow (by assumption) hb))
    (first
      | (go_at_call 27; refine (cores_any _ _ _ _ _ _ _).mono ?_; rintro e w1 ⟨rfl, hb⟩)
      | (go_at_call 28; refine (given_any _ _ _ _ _ _ _ _ _ _).mono ?_; rintro e w1 ⟨rfl, hb⟩)
      | (go_at_call 26; refine (next_lit (0) _ _ _ _ _ _ _ _ _ _ _ _ _ _ _ rfl _).mono ?_; rintro e w1 ⟨rfl, hb⟩))
  rename_i hH
  obtain ⟨c0, c1, c2, c3, c4, c5, c6, c7, c8, c9, c10, c11, c12, c13, c14, hB⟩ := hH
  have HB := Lib.hid hB
  clear hB
  go_wp2_with (go_at_call 30; refine (known_ok _).mono ?_; rintro e w9 ⟨rfl, hb9⟩)
  all_goals
    go_returns
    exact ⟨rfl, HB.out.trans (hb9.mono HB.out.size)⟩

set_option maxRecDepth 100000 in
set_option maxHeartbeats 4000000 in
theorem st20 (way since steps busy : Int) (i m k d : Bool) (w : World) :
    Calls Try.prog 8 #[.agg #[.bool true, .bool false, .int .i64 way, .int .i64 since, .int .i64 steps, .int .i64 busy], .agg #[.bool false, .bool false, .bool false, .bool true, .bool true, .bool i, .bool m, .bool k, .bool d]] w fun e w' => e = .returned (.bool true) ∧ Below w.heap.size w w' := by
  go_enter Try.func8, Try.ntmps8
  go_wp2_with fail
  have hB0 : Below w.heap.size w ((w.alloc (.cells #[.bool true, .bool false, .int .i64 way, .int .i64 since, .int .i64 steps, .int .i64 busy] 48)).alloc (.cells #[.bool false, .bool false, .bool false, .bool true, .bool true, .bool i, .bool m, .bool k, .bool d] 50)).drew := by go_grown
  go_region_held3 (fun w' => w'.cell? ⟨w.heap.size, 0, none⟩ = some (.bool true) ∧ w'.cell? ⟨w.heap.size, 1, none⟩ = some (.bool false) ∧ w'.cell? ⟨w.heap.size, 2, none⟩ = some (.int .i64 way) ∧ w'.cell? ⟨w.heap.size, 3, none⟩ = some (.int .i64 since) ∧ w'.cell? ⟨w.heap.size, 4, none⟩ = some (.int .i64 steps) ∧ w'.cell? ⟨w.heap.size, 5, none⟩ = some (.int .i64 busy) ∧ w'.cell? ⟨w.heap.size + 1, 0, none⟩ = some (.bool false) ∧ w'.cell? ⟨w.heap.size + 1, 1, none⟩ = some (.bool false) ∧ w'.cell? ⟨w.heap.size + 1, 2, none⟩ = some (.bool false) ∧ w'.cell? ⟨w.heap.size + 1, 3, none⟩ = some (.bool true) ∧ w'.cell? ⟨w.heap.size + 1, 4, none⟩ = some (.bool true) ∧ w'.cell? ⟨w.heap.size + 1, 5, none⟩ = some (.bool i) ∧ w'.cell? ⟨w.heap.size + 1, 6, none⟩ = some (.bool m) ∧ w'.cell? ⟨w.heap.size + 1, 7, none⟩ = some (.bool k) ∧ w'.cell? ⟨w.heap.size + 1, 8, none⟩ = some (.bool d) ∧ Below w.heap.size w w')
    (first
      | go_keep
      | (go_split_ands
         refine ⟨?_, ?_, ?_, ?_, ?_, ?_, ?_, ?_, ?_, ?_, ?_, ?_, ?_, ?_, ?_, ?_⟩
         all_goals first | exact keepcell hb (by assumption) | exact keepbelow (by assumption) hb))
    (first
      | (go_at_call 27; refine (cores_any _ _ _ _ _ _ _).mono ?_; rintro e w1 ⟨rfl, hb⟩)
      | (go_at_call 28; refine (given_any _ _ _ _ _ _ _ _ _ _).mono ?_; rintro e w1 ⟨rfl, hb⟩)
      | (go_at_call 26; refine (next_lit (4) _ _ _ _ _ _ _ _ _ _ _ _ _ _ _ rfl _).mono ?_; rintro e w1 ⟨rfl, hb⟩))
  rename_i hH
  obtain ⟨c0, c1, c2, c3, c4, c5, c6, c7, c8, c9, c10, c11, c12, c13, c14, hB⟩ := hH
  have HB := Lib.hid hB
  clear hB
  go_wp2_with (go_at_call 30; refine (known_ok _).mono ?_; rintro e w9 ⟨rfl, hb9⟩)
  all_goals
    go_returns
    exact ⟨rfl, HB.out.trans (hb9.mono HB.out.size)⟩

set_option maxRecDepth 100000 in
set_option maxHeartbeats 4000000 in
theorem st21 (way since steps busy : Int) (m k d : Bool) (w : World) :
    Calls Try.prog 8 #[.agg #[.bool true, .bool false, .int .i64 way, .int .i64 since, .int .i64 steps, .int .i64 busy], .agg #[.bool false, .bool false, .bool false, .bool true, .bool false, .bool true, .bool m, .bool k, .bool d]] w fun e w' => e = .returned (.bool true) ∧ Below w.heap.size w w' := by
  go_enter Try.func8, Try.ntmps8
  go_wp2_with fail
  have hB0 : Below w.heap.size w ((w.alloc (.cells #[.bool true, .bool false, .int .i64 way, .int .i64 since, .int .i64 steps, .int .i64 busy] 48)).alloc (.cells #[.bool false, .bool false, .bool false, .bool true, .bool false, .bool true, .bool m, .bool k, .bool d] 50)).drew := by go_grown
  go_region_held3 (fun w' => w'.cell? ⟨w.heap.size, 0, none⟩ = some (.bool true) ∧ w'.cell? ⟨w.heap.size, 1, none⟩ = some (.bool false) ∧ w'.cell? ⟨w.heap.size, 2, none⟩ = some (.int .i64 way) ∧ w'.cell? ⟨w.heap.size, 3, none⟩ = some (.int .i64 since) ∧ w'.cell? ⟨w.heap.size, 4, none⟩ = some (.int .i64 steps) ∧ w'.cell? ⟨w.heap.size, 5, none⟩ = some (.int .i64 busy) ∧ w'.cell? ⟨w.heap.size + 1, 0, none⟩ = some (.bool false) ∧ w'.cell? ⟨w.heap.size + 1, 1, none⟩ = some (.bool false) ∧ w'.cell? ⟨w.heap.size + 1, 2, none⟩ = some (.bool false) ∧ w'.cell? ⟨w.heap.size + 1, 3, none⟩ = some (.bool true) ∧ w'.cell? ⟨w.heap.size + 1, 4, none⟩ = some (.bool false) ∧ w'.cell? ⟨w.heap.size + 1, 5, none⟩ = some (.bool true) ∧ w'.cell? ⟨w.heap.size + 1, 6, none⟩ = some (.bool m) ∧ w'.cell? ⟨w.heap.size + 1, 7, none⟩ = some (.bool k) ∧ w'.cell? ⟨w.heap.size + 1, 8, none⟩ = some (.bool d) ∧ Below w.heap.size w w')
    (first
      | go_keep
      | (go_split_ands
         refine ⟨?_, ?_, ?_, ?_, ?_, ?_, ?_, ?_, ?_, ?_, ?_, ?_, ?_, ?_, ?_, ?_⟩
         all_goals first | exact keepcell hb (by assumption) | exact keepbelow (by assumption) hb))
    (first
      | (go_at_call 27; refine (cores_any _ _ _ _ _ _ _).mono ?_; rintro e w1 ⟨rfl, hb⟩)
      | (go_at_call 28; refine (given_any _ _ _ _ _ _ _ _ _ _).mono ?_; rintro e w1 ⟨rfl, hb⟩)
      | (go_at_call 26; refine (next_lit (5) _ _ _ _ _ _ _ _ _ _ _ _ _ _ _ rfl _).mono ?_; rintro e w1 ⟨rfl, hb⟩))
  rename_i hH
  obtain ⟨c0, c1, c2, c3, c4, c5, c6, c7, c8, c9, c10, c11, c12, c13, c14, hB⟩ := hH
  have HB := Lib.hid hB
  clear hB
  go_wp2_with (go_at_call 30; refine (known_ok _).mono ?_; rintro e w9 ⟨rfl, hb9⟩)
  all_goals
    go_returns
    exact ⟨rfl, HB.out.trans (hb9.mono HB.out.size)⟩

set_option maxRecDepth 100000 in
set_option maxHeartbeats 4000000 in
theorem st22 (way since steps busy : Int) (k d : Bool) (w : World) :
    Calls Try.prog 8 #[.agg #[.bool true, .bool false, .int .i64 way, .int .i64 since, .int .i64 steps, .int .i64 busy], .agg #[.bool false, .bool false, .bool false, .bool true, .bool false, .bool false, .bool true, .bool k, .bool d]] w fun e w' => e = .returned (.bool true) ∧ Below w.heap.size w w' := by
  go_enter Try.func8, Try.ntmps8
  go_wp2_with fail
  have hB0 : Below w.heap.size w ((w.alloc (.cells #[.bool true, .bool false, .int .i64 way, .int .i64 since, .int .i64 steps, .int .i64 busy] 48)).alloc (.cells #[.bool false, .bool false, .bool false, .bool true, .bool false, .bool false, .bool true, .bool k, .bool d] 50)).drew := by go_grown
  go_region_held3 (fun w' => w'.cell? ⟨w.heap.size, 0, none⟩ = some (.bool true) ∧ w'.cell? ⟨w.heap.size, 1, none⟩ = some (.bool false) ∧ w'.cell? ⟨w.heap.size, 2, none⟩ = some (.int .i64 way) ∧ w'.cell? ⟨w.heap.size, 3, none⟩ = some (.int .i64 since) ∧ w'.cell? ⟨w.heap.size, 4, none⟩ = some (.int .i64 steps) ∧ w'.cell? ⟨w.heap.size, 5, none⟩ = some (.int .i64 busy) ∧ w'.cell? ⟨w.heap.size + 1, 0, none⟩ = some (.bool false) ∧ w'.cell? ⟨w.heap.size + 1, 1, none⟩ = some (.bool false) ∧ w'.cell? ⟨w.heap.size + 1, 2, none⟩ = some (.bool false) ∧ w'.cell? ⟨w.heap.size + 1, 3, none⟩ = some (.bool true) ∧ w'.cell? ⟨w.heap.size + 1, 4, none⟩ = some (.bool false) ∧ w'.cell? ⟨w.heap.size + 1, 5, none⟩ = some (.bool false) ∧ w'.cell? ⟨w.heap.size + 1, 6, none⟩ = some (.bool true) ∧ w'.cell? ⟨w.heap.size + 1, 7, none⟩ = some (.bool k) ∧ w'.cell? ⟨w.heap.size + 1, 8, none⟩ = some (.bool d) ∧ Below w.heap.size w w')
    (first
      | go_keep
      | (go_split_ands
         refine ⟨?_, ?_, ?_, ?_, ?_, ?_, ?_, ?_, ?_, ?_, ?_, ?_, ?_, ?_, ?_, ?_⟩
         all_goals first | exact keepcell hb (by assumption) | exact keepbelow (by assumption) hb))
    (first
      | (go_at_call 27; refine (cores_any _ _ _ _ _ _ _).mono ?_; rintro e w1 ⟨rfl, hb⟩)
      | (go_at_call 28; refine (given_any _ _ _ _ _ _ _ _ _ _).mono ?_; rintro e w1 ⟨rfl, hb⟩)
      | (go_at_call 26; refine (next_lit (6) _ _ _ _ _ _ _ _ _ _ _ _ _ _ _ rfl _).mono ?_; rintro e w1 ⟨rfl, hb⟩))
  rename_i hH
  obtain ⟨c0, c1, c2, c3, c4, c5, c6, c7, c8, c9, c10, c11, c12, c13, c14, hB⟩ := hH
  have HB := Lib.hid hB
  clear hB
  go_wp2_with (go_at_call 30; refine (known_ok _).mono ?_; rintro e w9 ⟨rfl, hb9⟩)
  all_goals
    go_returns
    exact ⟨rfl, HB.out.trans (hb9.mono HB.out.size)⟩

set_option maxRecDepth 100000 in
set_option maxHeartbeats 4000000 in
theorem st23 (way since steps busy : Int) (d : Bool) (w : World) :
    Calls Try.prog 8 #[.agg #[.bool true, .bool false, .int .i64 way, .int .i64 since, .int .i64 steps, .int .i64 busy], .agg #[.bool false, .bool false, .bool false, .bool true, .bool false, .bool false, .bool false, .bool true, .bool d]] w fun e w' => e = .returned (.bool true) ∧ Below w.heap.size w w' := by
  go_enter Try.func8, Try.ntmps8
  go_wp2_with fail
  have hB0 : Below w.heap.size w ((w.alloc (.cells #[.bool true, .bool false, .int .i64 way, .int .i64 since, .int .i64 steps, .int .i64 busy] 48)).alloc (.cells #[.bool false, .bool false, .bool false, .bool true, .bool false, .bool false, .bool false, .bool true, .bool d] 50)).drew := by go_grown
  go_region_held3 (fun w' => w'.cell? ⟨w.heap.size, 0, none⟩ = some (.bool true) ∧ w'.cell? ⟨w.heap.size, 1, none⟩ = some (.bool false) ∧ w'.cell? ⟨w.heap.size, 2, none⟩ = some (.int .i64 way) ∧ w'.cell? ⟨w.heap.size, 3, none⟩ = some (.int .i64 since) ∧ w'.cell? ⟨w.heap.size, 4, none⟩ = some (.int .i64 steps) ∧ w'.cell? ⟨w.heap.size, 5, none⟩ = some (.int .i64 busy) ∧ w'.cell? ⟨w.heap.size + 1, 0, none⟩ = some (.bool false) ∧ w'.cell? ⟨w.heap.size + 1, 1, none⟩ = some (.bool false) ∧ w'.cell? ⟨w.heap.size + 1, 2, none⟩ = some (.bool false) ∧ w'.cell? ⟨w.heap.size + 1, 3, none⟩ = some (.bool true) ∧ w'.cell? ⟨w.heap.size + 1, 4, none⟩ = some (.bool false) ∧ w'.cell? ⟨w.heap.size + 1, 5, none⟩ = some (.bool false) ∧ w'.cell? ⟨w.heap.size + 1, 6, none⟩ = some (.bool false) ∧ w'.cell? ⟨w.heap.size + 1, 7, none⟩ = some (.bool true) ∧ w'.cell? ⟨w.heap.size + 1, 8, none⟩ = some (.bool d) ∧ Below w.heap.size w w')
    (first
      | go_keep
      | (go_split_ands
         refine ⟨?_, ?_, ?_, ?_, ?_, ?_, ?_, ?_, ?_, ?_, ?_, ?_, ?_, ?_, ?_, ?_⟩
         all_goals first | exact keepcell hb (by assumption) | exact keepbelow (by assumption) hb))
    (first
      | (go_at_call 27; refine (cores_any _ _ _ _ _ _ _).mono ?_; rintro e w1 ⟨rfl, hb⟩)
      | (go_at_call 28; refine (given_any _ _ _ _ _ _ _ _ _ _).mono ?_; rintro e w1 ⟨rfl, hb⟩)
      | (go_at_call 26; refine (next_lit (7) _ _ _ _ _ _ _ _ _ _ _ _ _ _ _ rfl _).mono ?_; rintro e w1 ⟨rfl, hb⟩))
  rename_i hH
  obtain ⟨c0, c1, c2, c3, c4, c5, c6, c7, c8, c9, c10, c11, c12, c13, c14, hB⟩ := hH
  have HB := Lib.hid hB
  clear hB
  go_wp2_with (go_at_call 30; refine (known_ok _).mono ?_; rintro e w9 ⟨rfl, hb9⟩)
  all_goals
    go_returns
    exact ⟨rfl, HB.out.trans (hb9.mono HB.out.size)⟩

set_option maxRecDepth 100000 in
set_option maxHeartbeats 4000000 in
theorem st24 (way since steps busy : Int) (_z : Bool) (w : World) :
    Calls Try.prog 8 #[.agg #[.bool true, .bool false, .int .i64 way, .int .i64 since, .int .i64 steps, .int .i64 busy], .agg #[.bool false, .bool false, .bool false, .bool true, .bool false, .bool false, .bool false, .bool false, .bool true]] w fun e w' => e = .returned (.bool true) ∧ Below w.heap.size w w' := by
  go_enter Try.func8, Try.ntmps8
  go_wp2_with fail
  have hB0 : Below w.heap.size w ((w.alloc (.cells #[.bool true, .bool false, .int .i64 way, .int .i64 since, .int .i64 steps, .int .i64 busy] 48)).alloc (.cells #[.bool false, .bool false, .bool false, .bool true, .bool false, .bool false, .bool false, .bool false, .bool true] 50)).drew := by go_grown
  go_region_held3 (fun w' => w'.cell? ⟨w.heap.size, 0, none⟩ = some (.bool true) ∧ w'.cell? ⟨w.heap.size, 1, none⟩ = some (.bool false) ∧ w'.cell? ⟨w.heap.size, 2, none⟩ = some (.int .i64 way) ∧ w'.cell? ⟨w.heap.size, 3, none⟩ = some (.int .i64 since) ∧ w'.cell? ⟨w.heap.size, 4, none⟩ = some (.int .i64 steps) ∧ w'.cell? ⟨w.heap.size, 5, none⟩ = some (.int .i64 busy) ∧ w'.cell? ⟨w.heap.size + 1, 0, none⟩ = some (.bool false) ∧ w'.cell? ⟨w.heap.size + 1, 1, none⟩ = some (.bool false) ∧ w'.cell? ⟨w.heap.size + 1, 2, none⟩ = some (.bool false) ∧ w'.cell? ⟨w.heap.size + 1, 3, none⟩ = some (.bool true) ∧ w'.cell? ⟨w.heap.size + 1, 4, none⟩ = some (.bool false) ∧ w'.cell? ⟨w.heap.size + 1, 5, none⟩ = some (.bool false) ∧ w'.cell? ⟨w.heap.size + 1, 6, none⟩ = some (.bool false) ∧ w'.cell? ⟨w.heap.size + 1, 7, none⟩ = some (.bool false) ∧ w'.cell? ⟨w.heap.size + 1, 8, none⟩ = some (.bool true) ∧ Below w.heap.size w w')
    (first
      | go_keep
      | (go_split_ands
         refine ⟨?_, ?_, ?_, ?_, ?_, ?_, ?_, ?_, ?_, ?_, ?_, ?_, ?_, ?_, ?_, ?_⟩
         all_goals first | exact keepcell hb (by assumption) | exact keepbelow (by assumption) hb))
    (first
      | (go_at_call 27; refine (cores_any _ _ _ _ _ _ _).mono ?_; rintro e w1 ⟨rfl, hb⟩)
      | (go_at_call 28; refine (given_any _ _ _ _ _ _ _ _ _ _).mono ?_; rintro e w1 ⟨rfl, hb⟩)
      | (go_at_call 26; refine (next_lit (8) _ _ _ _ _ _ _ _ _ _ _ _ _ _ _ rfl _).mono ?_; rintro e w1 ⟨rfl, hb⟩))
  rename_i hH
  obtain ⟨c0, c1, c2, c3, c4, c5, c6, c7, c8, c9, c10, c11, c12, c13, c14, hB⟩ := hH
  have HB := Lib.hid hB
  clear hB
  go_wp2_with (go_at_call 30; refine (known_ok _).mono ?_; rintro e w9 ⟨rfl, hb9⟩)
  all_goals
    go_returns
    exact ⟨rfl, HB.out.trans (hb9.mono HB.out.size)⟩

set_option maxRecDepth 100000 in
set_option maxHeartbeats 4000000 in
theorem st25 (way since steps busy : Int) (_z : Bool) (w : World) :
    Calls Try.prog 8 #[.agg #[.bool true, .bool false, .int .i64 way, .int .i64 since, .int .i64 steps, .int .i64 busy], .agg #[.bool false, .bool false, .bool false, .bool true, .bool false, .bool false, .bool false, .bool false, .bool false]] w fun e w' => e = .returned (.bool true) ∧ Below w.heap.size w w' := by
  go_enter Try.func8, Try.ntmps8
  go_wp2_with fail
  have hB0 : Below w.heap.size w ((w.alloc (.cells #[.bool true, .bool false, .int .i64 way, .int .i64 since, .int .i64 steps, .int .i64 busy] 48)).alloc (.cells #[.bool false, .bool false, .bool false, .bool true, .bool false, .bool false, .bool false, .bool false, .bool false] 50)).drew := by go_grown
  go_region_held3 (fun w' => w'.cell? ⟨w.heap.size, 0, none⟩ = some (.bool true) ∧ w'.cell? ⟨w.heap.size, 1, none⟩ = some (.bool false) ∧ w'.cell? ⟨w.heap.size, 2, none⟩ = some (.int .i64 way) ∧ w'.cell? ⟨w.heap.size, 3, none⟩ = some (.int .i64 since) ∧ w'.cell? ⟨w.heap.size, 4, none⟩ = some (.int .i64 steps) ∧ w'.cell? ⟨w.heap.size, 5, none⟩ = some (.int .i64 busy) ∧ w'.cell? ⟨w.heap.size + 1, 0, none⟩ = some (.bool false) ∧ w'.cell? ⟨w.heap.size + 1, 1, none⟩ = some (.bool false) ∧ w'.cell? ⟨w.heap.size + 1, 2, none⟩ = some (.bool false) ∧ w'.cell? ⟨w.heap.size + 1, 3, none⟩ = some (.bool true) ∧ w'.cell? ⟨w.heap.size + 1, 4, none⟩ = some (.bool false) ∧ w'.cell? ⟨w.heap.size + 1, 5, none⟩ = some (.bool false) ∧ w'.cell? ⟨w.heap.size + 1, 6, none⟩ = some (.bool false) ∧ w'.cell? ⟨w.heap.size + 1, 7, none⟩ = some (.bool false) ∧ w'.cell? ⟨w.heap.size + 1, 8, none⟩ = some (.bool false) ∧ Below w.heap.size w w')
    (first
      | go_keep
      | (go_split_ands
         refine ⟨?_, ?_, ?_, ?_, ?_, ?_, ?_, ?_, ?_, ?_, ?_, ?_, ?_, ?_, ?_, ?_⟩
         all_goals first | exact keepcell hb (by assumption) | exact keepbelow (by assumption) hb))
    (first
      | (go_at_call 27; refine (cores_any _ _ _ _ _ _ _).mono ?_; rintro e w1 ⟨rfl, hb⟩)
      | (go_at_call 28; refine (given_any _ _ _ _ _ _ _ _ _ _).mono ?_; rintro e w1 ⟨rfl, hb⟩)
      | (go_at_call 26; refine (next_lit (9) _ _ _ _ _ _ _ _ _ _ _ _ _ _ _ rfl _).mono ?_; rintro e w1 ⟨rfl, hb⟩))
  rename_i hH
  obtain ⟨c0, c1, c2, c3, c4, c5, c6, c7, c8, c9, c10, c11, c12, c13, c14, hB⟩ := hH
  have HB := Lib.hid hB
  clear hB
  go_wp2_with (go_at_call 30; refine (known_ok _).mono ?_; rintro e w9 ⟨rfl, hb9⟩)
  all_goals
    go_returns
    exact ⟨rfl, HB.out.trans (hb9.mono HB.out.size)⟩

set_option maxRecDepth 100000 in
set_option maxHeartbeats 4000000 in
theorem st26 (way since steps busy : Int) (h t c i m k d : Bool) (w : World) :
    Calls Try.prog 8 #[.agg #[.bool true, .bool true, .int .i64 way, .int .i64 since, .int .i64 steps, .int .i64 busy], .agg #[.bool true, .bool h, .bool t, .bool true, .bool c, .bool i, .bool m, .bool k, .bool d]] w fun e w' => e = .returned (.bool true) ∧ Below w.heap.size w w' := by
  go_enter Try.func8, Try.ntmps8
  go_wp2_with fail
  have hB0 : Below w.heap.size w ((w.alloc (.cells #[.bool true, .bool true, .int .i64 way, .int .i64 since, .int .i64 steps, .int .i64 busy] 48)).alloc (.cells #[.bool true, .bool h, .bool t, .bool true, .bool c, .bool i, .bool m, .bool k, .bool d] 50)).drew := by go_grown
  go_region_held3 (fun w' => w'.cell? ⟨w.heap.size, 0, none⟩ = some (.bool true) ∧ w'.cell? ⟨w.heap.size, 1, none⟩ = some (.bool true) ∧ w'.cell? ⟨w.heap.size, 2, none⟩ = some (.int .i64 way) ∧ w'.cell? ⟨w.heap.size, 3, none⟩ = some (.int .i64 since) ∧ w'.cell? ⟨w.heap.size, 4, none⟩ = some (.int .i64 steps) ∧ w'.cell? ⟨w.heap.size, 5, none⟩ = some (.int .i64 busy) ∧ w'.cell? ⟨w.heap.size + 1, 0, none⟩ = some (.bool true) ∧ w'.cell? ⟨w.heap.size + 1, 1, none⟩ = some (.bool h) ∧ w'.cell? ⟨w.heap.size + 1, 2, none⟩ = some (.bool t) ∧ w'.cell? ⟨w.heap.size + 1, 3, none⟩ = some (.bool true) ∧ w'.cell? ⟨w.heap.size + 1, 4, none⟩ = some (.bool c) ∧ w'.cell? ⟨w.heap.size + 1, 5, none⟩ = some (.bool i) ∧ w'.cell? ⟨w.heap.size + 1, 6, none⟩ = some (.bool m) ∧ w'.cell? ⟨w.heap.size + 1, 7, none⟩ = some (.bool k) ∧ w'.cell? ⟨w.heap.size + 1, 8, none⟩ = some (.bool d) ∧ Below w.heap.size w w')
    (first
      | go_keep
      | (go_split_ands
         refine ⟨?_, ?_, ?_, ?_, ?_, ?_, ?_, ?_, ?_, ?_, ?_, ?_, ?_, ?_, ?_, ?_⟩
         all_goals first | exact keepcell hb (by assumption) | exact keepbelow (by assumption) hb))
    (first
      | (go_at_call 27; refine (cores_any _ _ _ _ _ _ _).mono ?_; rintro e w1 ⟨rfl, hb⟩)
      | (go_at_call 28; refine (given_any _ _ _ _ _ _ _ _ _ _).mono ?_; rintro e w1 ⟨rfl, hb⟩)
      | (go_at_call 26; refine (next_lit (1) _ _ _ _ _ _ _ _ _ _ _ _ _ _ _ rfl _).mono ?_; rintro e w1 ⟨rfl, hb⟩))
  rename_i hH
  obtain ⟨c0, c1, c2, c3, c4, c5, c6, c7, c8, c9, c10, c11, c12, c13, c14, hB⟩ := hH
  have HB := Lib.hid hB
  clear hB
  go_wp2_with (go_at_call 30; refine (known_ok _).mono ?_; rintro e w9 ⟨rfl, hb9⟩)
  all_goals
    go_returns
    exact ⟨rfl, HB.out.trans (hb9.mono HB.out.size)⟩

set_option maxRecDepth 100000 in
set_option maxHeartbeats 4000000 in
theorem st27 (way since steps busy : Int) (h t c i m k d : Bool) (w : World) :
    Calls Try.prog 8 #[.agg #[.bool true, .bool true, .int .i64 way, .int .i64 since, .int .i64 steps, .int .i64 busy], .agg #[.bool true, .bool h, .bool t, .bool false, .bool c, .bool i, .bool m, .bool k, .bool d]] w fun e w' => e = .returned (.bool true) ∧ Below w.heap.size w w' := by
  go_enter Try.func8, Try.ntmps8
  go_wp2_with fail
  have hB0 : Below w.heap.size w ((w.alloc (.cells #[.bool true, .bool true, .int .i64 way, .int .i64 since, .int .i64 steps, .int .i64 busy] 48)).alloc (.cells #[.bool true, .bool h, .bool t, .bool false, .bool c, .bool i, .bool m, .bool k, .bool d] 50)).drew := by go_grown
  go_region_held3 (fun w' => w'.cell? ⟨w.heap.size, 0, none⟩ = some (.bool true) ∧ w'.cell? ⟨w.heap.size, 1, none⟩ = some (.bool true) ∧ w'.cell? ⟨w.heap.size, 2, none⟩ = some (.int .i64 way) ∧ w'.cell? ⟨w.heap.size, 3, none⟩ = some (.int .i64 since) ∧ w'.cell? ⟨w.heap.size, 4, none⟩ = some (.int .i64 steps) ∧ w'.cell? ⟨w.heap.size, 5, none⟩ = some (.int .i64 busy) ∧ w'.cell? ⟨w.heap.size + 1, 0, none⟩ = some (.bool true) ∧ w'.cell? ⟨w.heap.size + 1, 1, none⟩ = some (.bool h) ∧ w'.cell? ⟨w.heap.size + 1, 2, none⟩ = some (.bool t) ∧ w'.cell? ⟨w.heap.size + 1, 3, none⟩ = some (.bool false) ∧ w'.cell? ⟨w.heap.size + 1, 4, none⟩ = some (.bool c) ∧ w'.cell? ⟨w.heap.size + 1, 5, none⟩ = some (.bool i) ∧ w'.cell? ⟨w.heap.size + 1, 6, none⟩ = some (.bool m) ∧ w'.cell? ⟨w.heap.size + 1, 7, none⟩ = some (.bool k) ∧ w'.cell? ⟨w.heap.size + 1, 8, none⟩ = some (.bool d) ∧ Below w.heap.size w w')
    (first
      | go_keep
      | (go_split_ands
         refine ⟨?_, ?_, ?_, ?_, ?_, ?_, ?_, ?_, ?_, ?_, ?_, ?_, ?_, ?_, ?_, ?_⟩
         all_goals first | exact keepcell hb (by assumption) | exact keepbelow (by assumption) hb))
    (first
      | (go_at_call 27; refine (cores_any _ _ _ _ _ _ _).mono ?_; rintro e w1 ⟨rfl, hb⟩)
      | (go_at_call 28; refine (given_any _ _ _ _ _ _ _ _ _ _).mono ?_; rintro e w1 ⟨rfl, hb⟩)
      | (go_at_call 26; refine (next_lit (1) _ _ _ _ _ _ _ _ _ _ _ _ _ _ _ rfl _).mono ?_; rintro e w1 ⟨rfl, hb⟩))
  rename_i hH
  obtain ⟨c0, c1, c2, c3, c4, c5, c6, c7, c8, c9, c10, c11, c12, c13, c14, hB⟩ := hH
  have HB := Lib.hid hB
  clear hB
  go_wp2_with (go_at_call 30; refine (known_ok _).mono ?_; rintro e w9 ⟨rfl, hb9⟩)
  all_goals
    go_returns
    exact ⟨rfl, HB.out.trans (hb9.mono HB.out.size)⟩

set_option maxRecDepth 100000 in
set_option maxHeartbeats 4000000 in
theorem st28 (way since steps busy : Int) (h c i m k d : Bool) (w : World) :
    Calls Try.prog 8 #[.agg #[.bool true, .bool true, .int .i64 way, .int .i64 since, .int .i64 steps, .int .i64 busy], .agg #[.bool false, .bool h, .bool true, .bool true, .bool c, .bool i, .bool m, .bool k, .bool d]] w fun e w' => e = .returned (.bool true) ∧ Below w.heap.size w w' := by
  go_enter Try.func8, Try.ntmps8
  go_wp2_with fail
  have hB0 : Below w.heap.size w ((w.alloc (.cells #[.bool true, .bool true, .int .i64 way, .int .i64 since, .int .i64 steps, .int .i64 busy] 48)).alloc (.cells #[.bool false, .bool h, .bool true, .bool true, .bool c, .bool i, .bool m, .bool k, .bool d] 50)).drew := by go_grown
  go_region_held3 (fun w' => w'.cell? ⟨w.heap.size, 0, none⟩ = some (.bool true) ∧ w'.cell? ⟨w.heap.size, 1, none⟩ = some (.bool true) ∧ w'.cell? ⟨w.heap.size, 2, none⟩ = some (.int .i64 way) ∧ w'.cell? ⟨w.heap.size, 3, none⟩ = some (.int .i64 since) ∧ w'.cell? ⟨w.heap.size, 4, none⟩ = some (.int .i64 steps) ∧ w'.cell? ⟨w.heap.size, 5, none⟩ = some (.int .i64 busy) ∧ w'.cell? ⟨w.heap.size + 1, 0, none⟩ = some (.bool false) ∧ w'.cell? ⟨w.heap.size + 1, 1, none⟩ = some (.bool h) ∧ w'.cell? ⟨w.heap.size + 1, 2, none⟩ = some (.bool true) ∧ w'.cell? ⟨w.heap.size + 1, 3, none⟩ = some (.bool true) ∧ w'.cell? ⟨w.heap.size + 1, 4, none⟩ = some (.bool c) ∧ w'.cell? ⟨w.heap.size + 1, 5, none⟩ = some (.bool i) ∧ w'.cell? ⟨w.heap.size + 1, 6, none⟩ = some (.bool m) ∧ w'.cell? ⟨w.heap.size + 1, 7, none⟩ = some (.bool k) ∧ w'.cell? ⟨w.heap.size + 1, 8, none⟩ = some (.bool d) ∧ Below w.heap.size w w')
    (first
      | go_keep
      | (go_split_ands
         refine ⟨?_, ?_, ?_, ?_, ?_, ?_, ?_, ?_, ?_, ?_, ?_, ?_, ?_, ?_, ?_, ?_⟩
         all_goals first | exact keepcell hb (by assumption) | exact keepbelow (by assumption) hb))
    (first
      | (go_at_call 27; refine (cores_any _ _ _ _ _ _ _).mono ?_; rintro e w1 ⟨rfl, hb⟩)
      | (go_at_call 28; refine (given_any _ _ _ _ _ _ _ _ _ _).mono ?_; rintro e w1 ⟨rfl, hb⟩)
      | (go_at_call 26; refine (next_lit (1) _ _ _ _ _ _ _ _ _ _ _ _ _ _ _ rfl _).mono ?_; rintro e w1 ⟨rfl, hb⟩))
  rename_i hH
  obtain ⟨c0, c1, c2, c3, c4, c5, c6, c7, c8, c9, c10, c11, c12, c13, c14, hB⟩ := hH
  have HB := Lib.hid hB
  clear hB
  go_wp2_with (go_at_call 30; refine (known_ok _).mono ?_; rintro e w9 ⟨rfl, hb9⟩)
  all_goals
    go_returns
    exact ⟨rfl, HB.out.trans (hb9.mono HB.out.size)⟩

set_option maxRecDepth 100000 in
set_option maxHeartbeats 4000000 in
theorem st29 (way since steps busy : Int) (h c i m k d : Bool) (w : World) :
    Calls Try.prog 8 #[.agg #[.bool true, .bool true, .int .i64 way, .int .i64 since, .int .i64 steps, .int .i64 busy], .agg #[.bool false, .bool h, .bool true, .bool false, .bool c, .bool i, .bool m, .bool k, .bool d]] w fun e w' => e = .returned (.bool true) ∧ Below w.heap.size w w' := by
  go_enter Try.func8, Try.ntmps8
  go_wp2_with fail
  have hB0 : Below w.heap.size w ((w.alloc (.cells #[.bool true, .bool true, .int .i64 way, .int .i64 since, .int .i64 steps, .int .i64 busy] 48)).alloc (.cells #[.bool false, .bool h, .bool true, .bool false, .bool c, .bool i, .bool m, .bool k, .bool d] 50)).drew := by go_grown
  go_region_held3 (fun w' => w'.cell? ⟨w.heap.size, 0, none⟩ = some (.bool true) ∧ w'.cell? ⟨w.heap.size, 1, none⟩ = some (.bool true) ∧ w'.cell? ⟨w.heap.size, 2, none⟩ = some (.int .i64 way) ∧ w'.cell? ⟨w.heap.size, 3, none⟩ = some (.int .i64 since) ∧ w'.cell? ⟨w.heap.size, 4, none⟩ = some (.int .i64 steps) ∧ w'.cell? ⟨w.heap.size, 5, none⟩ = some (.int .i64 busy) ∧ w'.cell? ⟨w.heap.size + 1, 0, none⟩ = some (.bool false) ∧ w'.cell? ⟨w.heap.size + 1, 1, none⟩ = some (.bool h) ∧ w'.cell? ⟨w.heap.size + 1, 2, none⟩ = some (.bool true) ∧ w'.cell? ⟨w.heap.size + 1, 3, none⟩ = some (.bool false) ∧ w'.cell? ⟨w.heap.size + 1, 4, none⟩ = some (.bool c) ∧ w'.cell? ⟨w.heap.size + 1, 5, none⟩ = some (.bool i) ∧ w'.cell? ⟨w.heap.size + 1, 6, none⟩ = some (.bool m) ∧ w'.cell? ⟨w.heap.size + 1, 7, none⟩ = some (.bool k) ∧ w'.cell? ⟨w.heap.size + 1, 8, none⟩ = some (.bool d) ∧ Below w.heap.size w w')
    (first
      | go_keep
      | (go_split_ands
         refine ⟨?_, ?_, ?_, ?_, ?_, ?_, ?_, ?_, ?_, ?_, ?_, ?_, ?_, ?_, ?_, ?_⟩
         all_goals first | exact keepcell hb (by assumption) | exact keepbelow (by assumption) hb))
    (first
      | (go_at_call 27; refine (cores_any _ _ _ _ _ _ _).mono ?_; rintro e w1 ⟨rfl, hb⟩)
      | (go_at_call 28; refine (given_any _ _ _ _ _ _ _ _ _ _).mono ?_; rintro e w1 ⟨rfl, hb⟩)
      | (go_at_call 26; refine (next_lit (1) _ _ _ _ _ _ _ _ _ _ _ _ _ _ _ rfl _).mono ?_; rintro e w1 ⟨rfl, hb⟩))
  rename_i hH
  obtain ⟨c0, c1, c2, c3, c4, c5, c6, c7, c8, c9, c10, c11, c12, c13, c14, hB⟩ := hH
  have HB := Lib.hid hB
  clear hB
  go_wp2_with (go_at_call 30; refine (known_ok _).mono ?_; rintro e w9 ⟨rfl, hb9⟩)
  all_goals
    go_returns
    exact ⟨rfl, HB.out.trans (hb9.mono HB.out.size)⟩

set_option maxRecDepth 100000 in
set_option maxHeartbeats 4000000 in
theorem st30 (way since steps busy : Int) (c i m k d : Bool) (w : World) :
    Calls Try.prog 8 #[.agg #[.bool true, .bool true, .int .i64 way, .int .i64 since, .int .i64 steps, .int .i64 busy], .agg #[.bool false, .bool true, .bool false, .bool true, .bool c, .bool i, .bool m, .bool k, .bool d]] w fun e w' => e = .returned (.bool true) ∧ Below w.heap.size w w' := by
  go_enter Try.func8, Try.ntmps8
  go_wp2_with fail
  have hB0 : Below w.heap.size w ((w.alloc (.cells #[.bool true, .bool true, .int .i64 way, .int .i64 since, .int .i64 steps, .int .i64 busy] 48)).alloc (.cells #[.bool false, .bool true, .bool false, .bool true, .bool c, .bool i, .bool m, .bool k, .bool d] 50)).drew := by go_grown
  go_region_held3 (fun w' => w'.cell? ⟨w.heap.size, 0, none⟩ = some (.bool true) ∧ w'.cell? ⟨w.heap.size, 1, none⟩ = some (.bool true) ∧ w'.cell? ⟨w.heap.size, 2, none⟩ = some (.int .i64 way) ∧ w'.cell? ⟨w.heap.size, 3, none⟩ = some (.int .i64 since) ∧ w'.cell? ⟨w.heap.size, 4, none⟩ = some (.int .i64 steps) ∧ w'.cell? ⟨w.heap.size, 5, none⟩ = some (.int .i64 busy) ∧ w'.cell? ⟨w.heap.size + 1, 0, none⟩ = some (.bool false) ∧ w'.cell? ⟨w.heap.size + 1, 1, none⟩ = some (.bool true) ∧ w'.cell? ⟨w.heap.size + 1, 2, none⟩ = some (.bool false) ∧ w'.cell? ⟨w.heap.size + 1, 3, none⟩ = some (.bool true) ∧ w'.cell? ⟨w.heap.size + 1, 4, none⟩ = some (.bool c) ∧ w'.cell? ⟨w.heap.size + 1, 5, none⟩ = some (.bool i) ∧ w'.cell? ⟨w.heap.size + 1, 6, none⟩ = some (.bool m) ∧ w'.cell? ⟨w.heap.size + 1, 7, none⟩ = some (.bool k) ∧ w'.cell? ⟨w.heap.size + 1, 8, none⟩ = some (.bool d) ∧ Below w.heap.size w w')
    (first
      | go_keep
      | (go_split_ands
         refine ⟨?_, ?_, ?_, ?_, ?_, ?_, ?_, ?_, ?_, ?_, ?_, ?_, ?_, ?_, ?_, ?_⟩
         all_goals first | exact keepcell hb (by assumption) | exact keepbelow (by assumption) hb))
    (first
      | (go_at_call 27; refine (cores_any _ _ _ _ _ _ _).mono ?_; rintro e w1 ⟨rfl, hb⟩)
      | (go_at_call 28; refine (given_any _ _ _ _ _ _ _ _ _ _).mono ?_; rintro e w1 ⟨rfl, hb⟩)
      | (go_at_call 26; refine (next_lit (0) _ _ _ _ _ _ _ _ _ _ _ _ _ _ _ rfl _).mono ?_; rintro e w1 ⟨rfl, hb⟩))
  rename_i hH
  obtain ⟨c0, c1, c2, c3, c4, c5, c6, c7, c8, c9, c10, c11, c12, c13, c14, hB⟩ := hH
  have HB := Lib.hid hB
  clear hB
  go_wp2_with (go_at_call 30; refine (known_ok _).mono ?_; rintro e w9 ⟨rfl, hb9⟩)
  all_goals
    go_returns
    exact ⟨rfl, HB.out.trans (hb9.mono HB.out.size)⟩

set_option maxRecDepth 100000 in
set_option maxHeartbeats 4000000 in
theorem st31 (way since steps busy : Int) (c i m k d : Bool) (w : World) :
    Calls Try.prog 8 #[.agg #[.bool true, .bool true, .int .i64 way, .int .i64 since, .int .i64 steps, .int .i64 busy], .agg #[.bool false, .bool true, .bool false, .bool false, .bool c, .bool i, .bool m, .bool k, .bool d]] w fun e w' => e = .returned (.bool true) ∧ Below w.heap.size w w' := by
  go_enter Try.func8, Try.ntmps8
  go_wp2_with fail
  have hB0 : Below w.heap.size w ((w.alloc (.cells #[.bool true, .bool true, .int .i64 way, .int .i64 since, .int .i64 steps, .int .i64 busy] 48)).alloc (.cells #[.bool false, .bool true, .bool false, .bool false, .bool c, .bool i, .bool m, .bool k, .bool d] 50)).drew := by go_grown
  go_region_held3 (fun w' => w'.cell? ⟨w.heap.size, 0, none⟩ = some (.bool true) ∧ w'.cell? ⟨w.heap.size, 1, none⟩ = some (.bool true) ∧ w'.cell? ⟨w.heap.size, 2, none⟩ = some (.int .i64 way) ∧ w'.cell? ⟨w.heap.size, 3, none⟩ = some (.int .i64 since) ∧ w'.cell? ⟨w.heap.size, 4, none⟩ = some (.int .i64 steps) ∧ w'.cell? ⟨w.heap.size, 5, none⟩ = some (.int .i64 busy) ∧ w'.cell? ⟨w.heap.size + 1, 0, none⟩ = some (.bool false) ∧ w'.cell? ⟨w.heap.size + 1, 1, none⟩ = some (.bool true) ∧ w'.cell? ⟨w.heap.size + 1, 2, none⟩ = some (.bool false) ∧ w'.cell? ⟨w.heap.size + 1, 3, none⟩ = some (.bool false) ∧ w'.cell? ⟨w.heap.size + 1, 4, none⟩ = some (.bool c) ∧ w'.cell? ⟨w.heap.size + 1, 5, none⟩ = some (.bool i) ∧ w'.cell? ⟨w.heap.size + 1, 6, none⟩ = some (.bool m) ∧ w'.cell? ⟨w.heap.size + 1, 7, none⟩ = some (.bool k) ∧ w'.cell? ⟨w.heap.size + 1, 8, none⟩ = some (.bool d) ∧ Below w.heap.size w w')
    (first
      | go_keep
      | (go_split_ands
         refine ⟨?_, ?_, ?_, ?_, ?_, ?_, ?_, ?_, ?_, ?_, ?_, ?_, ?_, ?_, ?_, ?_⟩
         all_goals first | exact keepcell hb (by assumption) | exact keepbelow (by assumption) hb))
    (first
      | (go_at_call 27; refine (cores_any _ _ _ _ _ _ _).mono ?_; rintro e w1 ⟨rfl, hb⟩)
      | (go_at_call 28; refine (given_any _ _ _ _ _ _ _ _ _ _).mono ?_; rintro e w1 ⟨rfl, hb⟩)
      | (go_at_call 26; refine (next_lit (0) _ _ _ _ _ _ _ _ _ _ _ _ _ _ _ rfl _).mono ?_; rintro e w1 ⟨rfl, hb⟩))
  rename_i hH
  obtain ⟨c0, c1, c2, c3, c4, c5, c6, c7, c8, c9, c10, c11, c12, c13, c14, hB⟩ := hH
  have HB := Lib.hid hB
  clear hB
  go_wp2_with (go_at_call 30; refine (known_ok _).mono ?_; rintro e w9 ⟨rfl, hb9⟩)
  all_goals
    go_returns
    exact ⟨rfl, HB.out.trans (hb9.mono HB.out.size)⟩

set_option maxRecDepth 100000 in
set_option maxHeartbeats 4000000 in
theorem st32 (way since steps busy : Int) (c i m k d : Bool) (w : World) :
    Calls Try.prog 8 #[.agg #[.bool true, .bool true, .int .i64 way, .int .i64 since, .int .i64 steps, .int .i64 busy], .agg #[.bool false, .bool false, .bool false, .bool false, .bool c, .bool i, .bool m, .bool k, .bool d]] w fun e w' => e = .returned (.bool true) ∧ Below w.heap.size w w' := by
  go_enter Try.func8, Try.ntmps8
  go_wp2_with fail
  have hB0 : Below w.heap.size w ((w.alloc (.cells #[.bool true, .bool true, .int .i64 way, .int .i64 since, .int .i64 steps, .int .i64 busy] 48)).alloc (.cells #[.bool false, .bool false, .bool false, .bool false, .bool c, .bool i, .bool m, .bool k, .bool d] 50)).drew := by go_grown
  go_region_held3 (fun w' => w'.cell? ⟨w.heap.size, 0, none⟩ = some (.bool true) ∧ w'.cell? ⟨w.heap.size, 1, none⟩ = some (.bool true) ∧ w'.cell? ⟨w.heap.size, 2, none⟩ = some (.int .i64 way) ∧ w'.cell? ⟨w.heap.size, 3, none⟩ = some (.int .i64 since) ∧ w'.cell? ⟨w.heap.size, 4, none⟩ = some (.int .i64 steps) ∧ w'.cell? ⟨w.heap.size, 5, none⟩ = some (.int .i64 busy) ∧ w'.cell? ⟨w.heap.size + 1, 0, none⟩ = some (.bool false) ∧ w'.cell? ⟨w.heap.size + 1, 1, none⟩ = some (.bool false) ∧ w'.cell? ⟨w.heap.size + 1, 2, none⟩ = some (.bool false) ∧ w'.cell? ⟨w.heap.size + 1, 3, none⟩ = some (.bool false) ∧ w'.cell? ⟨w.heap.size + 1, 4, none⟩ = some (.bool c) ∧ w'.cell? ⟨w.heap.size + 1, 5, none⟩ = some (.bool i) ∧ w'.cell? ⟨w.heap.size + 1, 6, none⟩ = some (.bool m) ∧ w'.cell? ⟨w.heap.size + 1, 7, none⟩ = some (.bool k) ∧ w'.cell? ⟨w.heap.size + 1, 8, none⟩ = some (.bool d) ∧ Below w.heap.size w w')
    (first
      | go_keep
      | (go_split_ands
         refine ⟨?_, ?_, ?_, ?_, ?_, ?_, ?_, ?_, ?_, ?_, ?_, ?_, ?_, ?_, ?_, ?_⟩
         all_goals first | exact keepcell hb (by assumption) | exact keepbelow (by assumption) hb))
    (first
      | (go_at_call 27; refine (cores_any _ _ _ _ _ _ _).mono ?_; rintro e w1 ⟨rfl, hb⟩)
      | (go_at_call 28; refine (given_any _ _ _ _ _ _ _ _ _ _).mono ?_; rintro e w1 ⟨rfl, hb⟩)
      | (go_at_call 26; refine (next_lit (0) _ _ _ _ _ _ _ _ _ _ _ _ _ _ _ rfl _).mono ?_; rintro e w1 ⟨rfl, hb⟩))
  rename_i hH
  obtain ⟨c0, c1, c2, c3, c4, c5, c6, c7, c8, c9, c10, c11, c12, c13, c14, hB⟩ := hH
  have HB := Lib.hid hB
  clear hB
  go_wp2_with (go_at_call 30; refine (known_ok _).mono ?_; rintro e w9 ⟨rfl, hb9⟩)
  all_goals
    go_returns
    exact ⟨rfl, HB.out.trans (hb9.mono HB.out.size)⟩

set_option maxRecDepth 100000 in
set_option maxHeartbeats 4000000 in
theorem st33 (way since steps busy : Int) (i m k d : Bool) (w : World) :
    Calls Try.prog 8 #[.agg #[.bool true, .bool true, .int .i64 way, .int .i64 since, .int .i64 steps, .int .i64 busy], .agg #[.bool false, .bool false, .bool false, .bool true, .bool true, .bool i, .bool m, .bool k, .bool d]] w fun e w' => e = .returned (.bool true) ∧ Below w.heap.size w w' := by
  go_enter Try.func8, Try.ntmps8
  go_wp2_with fail
  have hB0 : Below w.heap.size w ((w.alloc (.cells #[.bool true, .bool true, .int .i64 way, .int .i64 since, .int .i64 steps, .int .i64 busy] 48)).alloc (.cells #[.bool false, .bool false, .bool false, .bool true, .bool true, .bool i, .bool m, .bool k, .bool d] 50)).drew := by go_grown
  go_region_held3 (fun w' => w'.cell? ⟨w.heap.size, 0, none⟩ = some (.bool true) ∧ w'.cell? ⟨w.heap.size, 1, none⟩ = some (.bool true) ∧ w'.cell? ⟨w.heap.size, 2, none⟩ = some (.int .i64 way) ∧ w'.cell? ⟨w.heap.size, 3, none⟩ = some (.int .i64 since) ∧ w'.cell? ⟨w.heap.size, 4, none⟩ = some (.int .i64 steps) ∧ w'.cell? ⟨w.heap.size, 5, none⟩ = some (.int .i64 busy) ∧ w'.cell? ⟨w.heap.size + 1, 0, none⟩ = some (.bool false) ∧ w'.cell? ⟨w.heap.size + 1, 1, none⟩ = some (.bool false) ∧ w'.cell? ⟨w.heap.size + 1, 2, none⟩ = some (.bool false) ∧ w'.cell? ⟨w.heap.size + 1, 3, none⟩ = some (.bool true) ∧ w'.cell? ⟨w.heap.size + 1, 4, none⟩ = some (.bool true) ∧ w'.cell? ⟨w.heap.size + 1, 5, none⟩ = some (.bool i) ∧ w'.cell? ⟨w.heap.size + 1, 6, none⟩ = some (.bool m) ∧ w'.cell? ⟨w.heap.size + 1, 7, none⟩ = some (.bool k) ∧ w'.cell? ⟨w.heap.size + 1, 8, none⟩ = some (.bool d) ∧ Below w.heap.size w w')
    (first
      | go_keep
      | (go_split_ands
         refine ⟨?_, ?_, ?_, ?_, ?_, ?_, ?_, ?_, ?_, ?_, ?_, ?_, ?_, ?_, ?_, ?_⟩
         all_goals first | exact keepcell hb (by assumption) | exact keepbelow (by assumption) hb))
    (first
      | (go_at_call 27; refine (cores_any _ _ _ _ _ _ _).mono ?_; rintro e w1 ⟨rfl, hb⟩)
      | (go_at_call 28; refine (given_any _ _ _ _ _ _ _ _ _ _).mono ?_; rintro e w1 ⟨rfl, hb⟩)
      | (go_at_call 26; refine (next_lit (1) _ _ _ _ _ _ _ _ _ _ _ _ _ _ _ rfl _).mono ?_; rintro e w1 ⟨rfl, hb⟩))
  rename_i hH
  obtain ⟨c0, c1, c2, c3, c4, c5, c6, c7, c8, c9, c10, c11, c12, c13, c14, hB⟩ := hH
  have HB := Lib.hid hB
  clear hB
  go_wp2_with (go_at_call 30; refine (known_ok _).mono ?_; rintro e w9 ⟨rfl, hb9⟩)
  all_goals
    go_returns
    exact ⟨rfl, HB.out.trans (hb9.mono HB.out.size)⟩

set_option maxRecDepth 100000 in
set_option maxHeartbeats 4000000 in
theorem st34 (way since steps busy : Int) (m k d : Bool) (w : World) :
    Calls Try.prog 8 #[.agg #[.bool true, .bool true, .int .i64 way, .int .i64 since, .int .i64 steps, .int .i64 busy], .agg #[.bool false, .bool false, .bool false, .bool true, .bool false, .bool true, .bool m, .bool k, .bool d]] w fun e w' => e = .returned (.bool true) ∧ Below w.heap.size w w' := by
  go_enter Try.func8, Try.ntmps8
  go_wp2_with fail
  have hB0 : Below w.heap.size w ((w.alloc (.cells #[.bool true, .bool true, .int .i64 way, .int .i64 since, .int .i64 steps, .int .i64 busy] 48)).alloc (.cells #[.bool false, .bool false, .bool false, .bool true, .bool false, .bool true, .bool m, .bool k, .bool d] 50)).drew := by go_grown
  go_region_held3 (fun w' => w'.cell? ⟨w.heap.size, 0, none⟩ = some (.bool true) ∧ w'.cell? ⟨w.heap.size, 1, none⟩ = some (.bool true) ∧ w'.cell? ⟨w.heap.size, 2, none⟩ = some (.int .i64 way) ∧ w'.cell? ⟨w.heap.size, 3, none⟩ = some (.int .i64 since) ∧ w'.cell? ⟨w.heap.size, 4, none⟩ = some (.int .i64 steps) ∧ w'.cell? ⟨w.heap.size, 5, none⟩ = some (.int .i64 busy) ∧ w'.cell? ⟨w.heap.size + 1, 0, none⟩ = some (.bool false) ∧ w'.cell? ⟨w.heap.size + 1, 1, none⟩ = some (.bool false) ∧ w'.cell? ⟨w.heap.size + 1, 2, none⟩ = some (.bool false) ∧ w'.cell? ⟨w.heap.size + 1, 3, none⟩ = some (.bool true) ∧ w'.cell? ⟨w.heap.size + 1, 4, none⟩ = some (.bool false) ∧ w'.cell? ⟨w.heap.size + 1, 5, none⟩ = some (.bool true) ∧ w'.cell? ⟨w.heap.size + 1, 6, none⟩ = some (.bool m) ∧ w'.cell? ⟨w.heap.size + 1, 7, none⟩ = some (.bool k) ∧ w'.cell? ⟨w.heap.size + 1, 8, none⟩ = some (.bool d) ∧ Below w.heap.size w w')
    (first
      | go_keep
      | (go_split_ands
         refine ⟨?_, ?_, ?_, ?_, ?_, ?_, ?_, ?_, ?_, ?_, ?_, ?_, ?_, ?_, ?_, ?_⟩
         all_goals first | exact keepcell hb (by assumption) | exact keepbelow (by assumption) hb))
    (first
      | (go_at_call 27; refine (cores_any _ _ _ _ _ _ _).mono ?_; rintro e w1 ⟨rfl, hb⟩)
      | (go_at_call 28; refine (given_any _ _ _ _ _ _ _ _ _ _).mono ?_; rintro e w1 ⟨rfl, hb⟩)
      | (go_at_call 26; refine (next_lit (1) _ _ _ _ _ _ _ _ _ _ _ _ _ _ _ rfl _).mono ?_; rintro e w1 ⟨rfl, hb⟩))
  rename_i hH
  obtain ⟨c0, c1, c2, c3, c4, c5, c6, c7, c8, c9, c10, c11, c12, c13, c14, hB⟩ := hH
  have HB := Lib.hid hB
  clear hB
  go_wp2_with (go_at_call 30; refine (known_ok _).mono ?_; rintro e w9 ⟨rfl, hb9⟩)
  all_goals
    go_returns
    exact ⟨rfl, HB.out.trans (hb9.mono HB.out.size)⟩

set_option maxRecDepth 100000 in
set_option maxHeartbeats 4000000 in
theorem st35 (way since steps busy : Int) (k d : Bool) (w : World) :
    Calls Try.prog 8 #[.agg #[.bool true, .bool true, .int .i64 way, .int .i64 since, .int .i64 steps, .int .i64 busy], .agg #[.bool false, .bool false, .bool false, .bool true, .bool false, .bool false, .bool true, .bool k, .bool d]] w fun e w' => e = .returned (.bool true) ∧ Below w.heap.size w w' := by
  go_enter Try.func8, Try.ntmps8
  go_wp2_with fail
  have hB0 : Below w.heap.size w ((w.alloc (.cells #[.bool true, .bool true, .int .i64 way, .int .i64 since, .int .i64 steps, .int .i64 busy] 48)).alloc (.cells #[.bool false, .bool false, .bool false, .bool true, .bool false, .bool false, .bool true, .bool k, .bool d] 50)).drew := by go_grown
  go_region_held3 (fun w' => w'.cell? ⟨w.heap.size, 0, none⟩ = some (.bool true) ∧ w'.cell? ⟨w.heap.size, 1, none⟩ = some (.bool true) ∧ w'.cell? ⟨w.heap.size, 2, none⟩ = some (.int .i64 way) ∧ w'.cell? ⟨w.heap.size, 3, none⟩ = some (.int .i64 since) ∧ w'.cell? ⟨w.heap.size, 4, none⟩ = some (.int .i64 steps) ∧ w'.cell? ⟨w.heap.size, 5, none⟩ = some (.int .i64 busy) ∧ w'.cell? ⟨w.heap.size + 1, 0, none⟩ = some (.bool false) ∧ w'.cell? ⟨w.heap.size + 1, 1, none⟩ = some (.bool false) ∧ w'.cell? ⟨w.heap.size + 1, 2, none⟩ = some (.bool false) ∧ w'.cell? ⟨w.heap.size + 1, 3, none⟩ = some (.bool true) ∧ w'.cell? ⟨w.heap.size + 1, 4, none⟩ = some (.bool false) ∧ w'.cell? ⟨w.heap.size + 1, 5, none⟩ = some (.bool false) ∧ w'.cell? ⟨w.heap.size + 1, 6, none⟩ = some (.bool true) ∧ w'.cell? ⟨w.heap.size + 1, 7, none⟩ = some (.bool k) ∧ w'.cell? ⟨w.heap.size + 1, 8, none⟩ = some (.bool d) ∧ Below w.heap.size w w')
    (first
      | go_keep
      | (go_split_ands
         refine ⟨?_, ?_, ?_, ?_, ?_, ?_, ?_, ?_, ?_, ?_, ?_, ?_, ?_, ?_, ?_, ?_⟩
         all_goals first | exact keepcell hb (by assumption) | exact keepbelow (by assumption) hb))
    (first
      | (go_at_call 27; refine (cores_any _ _ _ _ _ _ _).mono ?_; rintro e w1 ⟨rfl, hb⟩)
      | (go_at_call 28; refine (given_any _ _ _ _ _ _ _ _ _ _).mono ?_; rintro e w1 ⟨rfl, hb⟩)
      | (go_at_call 26; refine (next_lit (1) _ _ _ _ _ _ _ _ _ _ _ _ _ _ _ rfl _).mono ?_; rintro e w1 ⟨rfl, hb⟩))
  rename_i hH
  obtain ⟨c0, c1, c2, c3, c4, c5, c6, c7, c8, c9, c10, c11, c12, c13, c14, hB⟩ := hH
  have HB := Lib.hid hB
  clear hB
  go_wp2_with (go_at_call 30; refine (known_ok _).mono ?_; rintro e w9 ⟨rfl, hb9⟩)
  all_goals
    go_returns
    exact ⟨rfl, HB.out.trans (hb9.mono HB.out.size)⟩

set_option maxRecDepth 100000 in
set_option maxHeartbeats 4000000 in
theorem st36 (way since steps busy : Int) (d : Bool) (w : World) :
    Calls Try.prog 8 #[.agg #[.bool true, .bool true, .int .i64 way, .int .i64 since, .int .i64 steps, .int .i64 busy], .agg #[.bool false, .bool false, .bool false, .bool true, .bool false, .bool false, .bool false, .bool true, .bool d]] w fun e w' => e = .returned (.bool true) ∧ Below w.heap.size w w' := by
  go_enter Try.func8, Try.ntmps8
  go_wp2_with fail
  have hB0 : Below w.heap.size w ((w.alloc (.cells #[.bool true, .bool true, .int .i64 way, .int .i64 since, .int .i64 steps, .int .i64 busy] 48)).alloc (.cells #[.bool false, .bool false, .bool false, .bool true, .bool false, .bool false, .bool false, .bool true, .bool d] 50)).drew := by go_grown
  go_region_held3 (fun w' => w'.cell? ⟨w.heap.size, 0, none⟩ = some (.bool true) ∧ w'.cell? ⟨w.heap.size, 1, none⟩ = some (.bool true) ∧ w'.cell? ⟨w.heap.size, 2, none⟩ = some (.int .i64 way) ∧ w'.cell? ⟨w.heap.size, 3, none⟩ = some (.int .i64 since) ∧ w'.cell? ⟨w.heap.size, 4, none⟩ = some (.int .i64 steps) ∧ w'.cell? ⟨w.heap.size, 5, none⟩ = some (.int .i64 busy) ∧ w'.cell? ⟨w.heap.size + 1, 0, none⟩ = some (.bool false) ∧ w'.cell? ⟨w.heap.size + 1, 1, none⟩ = some (.bool false) ∧ w'.cell? ⟨w.heap.size + 1, 2, none⟩ = some (.bool false) ∧ w'.cell? ⟨w.heap.size + 1, 3, none⟩ = some (.bool true) ∧ w'.cell? ⟨w.heap.size + 1, 4, none⟩ = some (.bool false) ∧ w'.cell? ⟨w.heap.size + 1, 5, none⟩ = some (.bool false) ∧ w'.cell? ⟨w.heap.size + 1, 6, none⟩ = some (.bool false) ∧ w'.cell? ⟨w.heap.size + 1, 7, none⟩ = some (.bool true) ∧ w'.cell? ⟨w.heap.size + 1, 8, none⟩ = some (.bool d) ∧ Below w.heap.size w w')
    (first
      | go_keep
      | (go_split_ands
         refine ⟨?_, ?_, ?_, ?_, ?_, ?_, ?_, ?_, ?_, ?_, ?_, ?_, ?_, ?_, ?_, ?_⟩
         all_goals first | exact keepcell hb (by assumption) | exact keepbelow (by assumption) hb))
    (first
      | (go_at_call 27; refine (cores_any _ _ _ _ _ _ _).mono ?_; rintro e w1 ⟨rfl, hb⟩)
      | (go_at_call 28; refine (given_any _ _ _ _ _ _ _ _ _ _).mono ?_; rintro e w1 ⟨rfl, hb⟩)
      | (go_at_call 26; refine (next_lit (1) _ _ _ _ _ _ _ _ _ _ _ _ _ _ _ rfl _).mono ?_; rintro e w1 ⟨rfl, hb⟩))
  rename_i hH
  obtain ⟨c0, c1, c2, c3, c4, c5, c6, c7, c8, c9, c10, c11, c12, c13, c14, hB⟩ := hH
  have HB := Lib.hid hB
  clear hB
  go_wp2_with (go_at_call 30; refine (known_ok _).mono ?_; rintro e w9 ⟨rfl, hb9⟩)
  all_goals
    go_returns
    exact ⟨rfl, HB.out.trans (hb9.mono HB.out.size)⟩

set_option maxRecDepth 100000 in
set_option maxHeartbeats 4000000 in
theorem st37 (way since steps busy : Int) (_z : Bool) (w : World) :
    Calls Try.prog 8 #[.agg #[.bool true, .bool true, .int .i64 way, .int .i64 since, .int .i64 steps, .int .i64 busy], .agg #[.bool false, .bool false, .bool false, .bool true, .bool false, .bool false, .bool false, .bool false, .bool true]] w fun e w' => e = .returned (.bool true) ∧ Below w.heap.size w w' := by
  go_enter Try.func8, Try.ntmps8
  go_wp2_with fail
  have hB0 : Below w.heap.size w ((w.alloc (.cells #[.bool true, .bool true, .int .i64 way, .int .i64 since, .int .i64 steps, .int .i64 busy] 48)).alloc (.cells #[.bool false, .bool false, .bool false, .bool true, .bool false, .bool false, .bool false, .bool false, .bool true] 50)).drew := by go_grown
  go_region_held3 (fun w' => w'.cell? ⟨w.heap.size, 0, none⟩ = some (.bool true) ∧ w'.cell? ⟨w.heap.size, 1, none⟩ = some (.bool true) ∧ w'.cell? ⟨w.heap.size, 2, none⟩ = some (.int .i64 way) ∧ w'.cell? ⟨w.heap.size, 3, none⟩ = some (.int .i64 since) ∧ w'.cell? ⟨w.heap.size, 4, none⟩ = some (.int .i64 steps) ∧ w'.cell? ⟨w.heap.size, 5, none⟩ = some (.int .i64 busy) ∧ w'.cell? ⟨w.heap.size + 1, 0, none⟩ = some (.bool false) ∧ w'.cell? ⟨w.heap.size + 1, 1, none⟩ = some (.bool false) ∧ w'.cell? ⟨w.heap.size + 1, 2, none⟩ = some (.bool false) ∧ w'.cell? ⟨w.heap.size + 1, 3, none⟩ = some (.bool true) ∧ w'.cell? ⟨w.heap.size + 1, 4, none⟩ = some (.bool false) ∧ w'.cell? ⟨w.heap.size + 1, 5, none⟩ = some (.bool false) ∧ w'.cell? ⟨w.heap.size + 1, 6, none⟩ = some (.bool false) ∧ w'.cell? ⟨w.heap.size + 1, 7, none⟩ = some (.bool false) ∧ w'.cell? ⟨w.heap.size + 1, 8, none⟩ = some (.bool true) ∧ Below w.heap.size w w')
    (first
      | go_keep
      | (go_split_ands
         refine ⟨?_, ?_, ?_, ?_, ?_, ?_, ?_, ?_, ?_, ?_, ?_, ?_, ?_, ?_, ?_, ?_⟩
         all_goals first | exact keepcell hb (by assumption) | exact keepbelow (by assumption) hb))
    (first
      | (go_at_call 27; refine (cores_any _ _ _ _ _ _ _).mono ?_; rintro e w1 ⟨rfl, hb⟩)
      | (go_at_call 28; refine (given_any _ _ _ _ _ _ _ _ _ _).mono ?_; rintro e w1 ⟨rfl, hb⟩)
      | (go_at_call 26; refine (next_lit (1) _ _ _ _ _ _ _ _ _ _ _ _ _ _ _ rfl _).mono ?_; rintro e w1 ⟨rfl, hb⟩))
  rename_i hH
  obtain ⟨c0, c1, c2, c3, c4, c5, c6, c7, c8, c9, c10, c11, c12, c13, c14, hB⟩ := hH
  have HB := Lib.hid hB
  clear hB
  go_wp2_with (go_at_call 30; refine (known_ok _).mono ?_; rintro e w9 ⟨rfl, hb9⟩)
  all_goals
    go_returns
    exact ⟨rfl, HB.out.trans (hb9.mono HB.out.size)⟩

set_option maxRecDepth 100000 in
set_option maxHeartbeats 4000000 in
theorem st38 (way since steps busy : Int) (_z : Bool) (w : World) :
    Calls Try.prog 8 #[.agg #[.bool true, .bool true, .int .i64 way, .int .i64 since, .int .i64 steps, .int .i64 busy], .agg #[.bool false, .bool false, .bool false, .bool true, .bool false, .bool false, .bool false, .bool false, .bool false]] w fun e w' => e = .returned (.bool true) ∧ Below w.heap.size w w' := by
  go_enter Try.func8, Try.ntmps8
  go_wp2_with fail
  have hB0 : Below w.heap.size w ((w.alloc (.cells #[.bool true, .bool true, .int .i64 way, .int .i64 since, .int .i64 steps, .int .i64 busy] 48)).alloc (.cells #[.bool false, .bool false, .bool false, .bool true, .bool false, .bool false, .bool false, .bool false, .bool false] 50)).drew := by go_grown
  go_region_held3 (fun w' => w'.cell? ⟨w.heap.size, 0, none⟩ = some (.bool true) ∧ w'.cell? ⟨w.heap.size, 1, none⟩ = some (.bool true) ∧ w'.cell? ⟨w.heap.size, 2, none⟩ = some (.int .i64 way) ∧ w'.cell? ⟨w.heap.size, 3, none⟩ = some (.int .i64 since) ∧ w'.cell? ⟨w.heap.size, 4, none⟩ = some (.int .i64 steps) ∧ w'.cell? ⟨w.heap.size, 5, none⟩ = some (.int .i64 busy) ∧ w'.cell? ⟨w.heap.size + 1, 0, none⟩ = some (.bool false) ∧ w'.cell? ⟨w.heap.size + 1, 1, none⟩ = some (.bool false) ∧ w'.cell? ⟨w.heap.size + 1, 2, none⟩ = some (.bool false) ∧ w'.cell? ⟨w.heap.size + 1, 3, none⟩ = some (.bool true) ∧ w'.cell? ⟨w.heap.size + 1, 4, none⟩ = some (.bool false) ∧ w'.cell? ⟨w.heap.size + 1, 5, none⟩ = some (.bool false) ∧ w'.cell? ⟨w.heap.size + 1, 6, none⟩ = some (.bool false) ∧ w'.cell? ⟨w.heap.size + 1, 7, none⟩ = some (.bool false) ∧ w'.cell? ⟨w.heap.size + 1, 8, none⟩ = some (.bool false) ∧ Below w.heap.size w w')
    (first
      | go_keep
      | (go_split_ands
         refine ⟨?_, ?_, ?_, ?_, ?_, ?_, ?_, ?_, ?_, ?_, ?_, ?_, ?_, ?_, ?_, ?_⟩
         all_goals first | exact keepcell hb (by assumption) | exact keepbelow (by assumption) hb))
    (first
      | (go_at_call 27; refine (cores_any _ _ _ _ _ _ _).mono ?_; rintro e w1 ⟨rfl, hb⟩)
      | (go_at_call 28; refine (given_any _ _ _ _ _ _ _ _ _ _).mono ?_; rintro e w1 ⟨rfl, hb⟩)
      | (go_at_call 26; refine (next_lit (0) _ _ _ _ _ _ _ _ _ _ _ _ _ _ _ rfl _).mono ?_; rintro e w1 ⟨rfl, hb⟩))
  rename_i hH
  obtain ⟨c0, c1, c2, c3, c4, c5, c6, c7, c8, c9, c10, c11, c12, c13, c14, hB⟩ := hH
  have HB := Lib.hid hB
  clear hB
  go_wp2_with (go_at_call 30; refine (known_ok _).mono ?_; rintro e w9 ⟨rfl, hb9⟩)
  all_goals
    go_returns
    exact ⟨rfl, HB.out.trans (hb9.mono HB.out.size)⟩

theorem still_walk (p idle : Bool) (way since steps busy : Int) (s h t a c i m k d : Bool) (w : World) :
    Calls Try.prog 8 #[.agg #[.bool p, .bool idle, .int .i64 way, .int .i64 since, .int .i64 steps, .int .i64 busy], .agg #[.bool s, .bool h, .bool t, .bool a, .bool c, .bool i, .bool m, .bool k, .bool d]] w fun e w' => e = .returned (.bool true) ∧ Below w.heap.size w w' := by
  cases p
  · cases s
    · cases t
      · cases h
        · cases a
          · exact st6 way since steps busy c i m k d idle w
          · cases c
            · cases i
              · cases m
                · cases k
                  · cases d
                    · exact st12 way since steps busy idle w
                    · exact st11 way since steps busy idle w
                  · exact st10 way since steps busy d idle w
                · exact st9 way since steps busy k d idle w
              · exact st8 way since steps busy m k d idle w
            · exact st7 way since steps busy i m k d idle w
        · cases a
          · exact st5 way since steps busy c i m k d idle w
          · exact st4 way since steps busy c i m k d idle w
      · cases a
        · exact st3 way since steps busy h c i m k d idle w
        · exact st2 way since steps busy h c i m k d idle w
    · cases a
      · exact st1 way since steps busy h t c i m k d idle w
      · exact st0 way since steps busy h t c i m k d idle w
  · cases idle
    · cases s
      · cases t
        · cases h
          · cases a
            · exact st19 way since steps busy c i m k d w
            · cases c
              · cases i
                · cases m
                  · cases k
                    · cases d
                      · exact st25 way since steps busy true w
                      · exact st24 way since steps busy true w
                    · exact st23 way since steps busy d w
                  · exact st22 way since steps busy k d w
                · exact st21 way since steps busy m k d w
              · exact st20 way since steps busy i m k d w
          · cases a
            · exact st18 way since steps busy c i m k d w
            · exact st17 way since steps busy c i m k d w
        · cases a
          · exact st16 way since steps busy h c i m k d w
          · exact st15 way since steps busy h c i m k d w
      · cases a
        · exact st14 way since steps busy h t c i m k d w
        · exact st13 way since steps busy h t c i m k d w
    · cases s
      · cases t
        · cases h
          · cases a
            · exact st32 way since steps busy c i m k d w
            · cases c
              · cases i
                · cases m
                  · cases k
                    · cases d
                      · exact st38 way since steps busy true w
                      · exact st37 way since steps busy true w
                    · exact st36 way since steps busy d w
                  · exact st35 way since steps busy k d w
                · exact st34 way since steps busy m k d w
              · exact st33 way since steps busy i m k d w
          · cases a
            · exact st31 way since steps busy c i m k d w
            · exact st30 way since steps busy c i m k d w
        · cases a
          · exact st29 way since steps busy h c i m k d w
          · exact st28 way since steps busy h c i m k d w
      · cases a
        · exact st27 way since steps busy h t c i m k d w
        · exact st26 way since steps busy h t c i m k d w


theorem walk (W : World) (V : Nat → Value) (ok : ∀ (j : Nat) (k : FK), [FK.bool, .bool, .int .i64, .int .i64, .int .i64, .int .i64][j]? = some k → k.ok (V j)) (V' : Nat → Value) (ok' : ∀ (j : Nat) (k : FK), [FK.bool, .bool, .bool, .bool, .bool, .bool, .bool, .bool, .bool][j]? = some k → k.ok (V' j)) :
    Calls Try.prog 8 #[.agg ((List.range 6).map (fun j => (([FK.bool, .bool, .int .i64, .int .i64, .int .i64, .int .i64][j]?).getD .bool).val (V j))).toArray, .agg ((List.range 9).map (fun j => (([FK.bool, .bool, .bool, .bool, .bool, .bool, .bool, .bool, .bool][j]?).getD .bool).val (V' j))).toArray] W fun e W' => e = .returned (.bool true) ∧ Below W.heap.size W W' :=
  still_walk _ _ _ _ _ _ _ _ _ _ _ _ _ _ _ W

end Go.Proofs.Ytpefmgmhclbcbaa.WalkCoreStill
