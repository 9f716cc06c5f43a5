/- Contracts of the methods of the document's table of cores. -/
import Derived.Test.YtpefmgmhclbcbaaProg
import Derived.Test.YtpefmgmhclbcbaaFrame
import Derived.Test.YtpefmgmhclbcbaaCoreC
import Derived.WalkKit
import Derived.Handy
import Derived.WalkLawsBesides
import Derived.WalkSpells
import Derived.Below
import Derived.BigQuiet
import Derived.Deep.QuietTactic
import Derived.Lib.Hide
import Derived.Outline
namespace Go.Proofs.Ytpefmgmhclbcbaa.CoreE
open Go.RowKit Go.Proofs.Ytpefmgmhclbcbaa.Frame Go.Proofs.Ytpefmgmhclbcbaa.CoreC
set_option linter.unusedVariables false
set_option linter.unusedSimpArgs false
theorem max2_int (k k' : IntKind) (x y : Int) : Builtin.max2 (.int k x) (.int k' y) = pure (.int k (if x < y then y else x)) := by simp only [Builtin.max2, gt_iff_lt]
theorem max_two (ats : Array TypeId) (ty : TypeId) (a b : Value) : Builtin.max_ ats ty #[a, b] = (Builtin.max2 a b >>= fun s => pure s) := by simp only [Builtin.max_, List.foldlM_cons, List.foldlM_nil]
attribute [local go_sem] max2_int max_two
theorem is_out (w : World) (tb cb cap n : Nat) (i : Int) (hd : w.cell? ⟨tb, 0, none⟩ = some (.slice (some ⟨cb, 0, none⟩) n cap)) (hfew : n ≤ 64) (hi : i < 0 ∨ (n : Int) ≤ i) :
    Calls Try.prog 49 #[.pointer (some ⟨tb, 0, none⟩), .int .i64 i] w fun e w' => e = .returned (.bool false) ∧ w = w' := by
  rcases hi with hi | hi
  · go_enter Try.func49, Try.ntmps49
    go_wp2
    go_ret
    exact ⟨rfl, rfl⟩
  · have h0 : 0 ≤ i := by omega
    have d : decide (i < (n : Int)) = false := by simp; omega
    go_enter Try.func49, Try.ntmps49
    go_wp2
    go_ret
    exact ⟨rfl, rfl⟩
set_option maxRecDepth 100000 in
set_option maxHeartbeats 2000000 in
theorem power (w : World) (tb cb cap : Nat) (cs : List CoreS) (h : Tab w tb cb cap cs) (i : Int) (on : Bool) :
    Calls Try.prog 39 #[.pointer (some ⟨tb, 0, none⟩), .int .i64 i, .bool on] w fun e w' => e = .returned (.int .i64 (onCore cs i 3 (powerF on)).2) ∧ Tab w' tb cb cap (onCore cs i 3 (powerF on)).1 ∧ Ch (· = cb) w w' := by
  have H := Lib.hid h
  have hd := h.hd
  have hfew := h.few
  have hl1 := h.lt1
  have hl2 := h.lt2
  have hfz := h.free
  have hne := h.ne
  rcases split cs i with ⟨n, c, rfl, hi⟩ | hi
  · rw [onCore_in hi]
    have hlt : n < cs.length := (List.getElem?_eq_some_iff.1 hi).1
    obtain ⟨a0, a1, a2, a3, a4, a5⟩ := h.rows n c hi
    clear h hi
    obtain ⟨p, idle, way0, since, steps, busy⟩ := c
    simp only [] at a0 a1 a2 a3 a4 a5
    cases p <;> cases on
    all_goals
      simp only [powerF, beq_self_eq_true, Bool.beq_eq_decide_eq, decide_true, decide_false, reduceCtorEq, Bool.false_eq_true, if_true, if_false]
    all_goals
      go_enter Try.func39, Try.ntmps39
      go_wp2
      go_returns
      refine ⟨rfl, H.out.set hlt _ ?_ ?_ ⟨?_, ?_, ?_, ?_, ?_, ?_⟩ ?_ ?_, ?_⟩
      all_goals first
        | (go_simp; done)
        | (intro o ho; go_simp; done)
        | (intro o; go_simp; done)
        | (repeat' (first | with_reducible exact Ch.refl _ _ | with_reducible assumption | (with_reducible refine Ch.setCell ?_ ?_ _) | (with_reducible refine Ch.alloc ?_ _) | (with_reducible refine Ch.drew ?_) | (with_reducible refine Ch.drewN ?_ _) | (intro _; rfl)))
  · rw [onCore_out hi]
    clear h
    rcases hi with hi | hi
    all_goals
      have hi2 : i < 0 ∨ (cs.length : Int) ≤ i := by omega
      go_enter Try.func39, Try.ntmps39
      go_wp2_with (go_at_call 49; refine (is_out _ _ _ _ _ _ hd hfew hi2).mono ?_; rintro e w1 ⟨rfl, rfl⟩)
      go_returns
      exact ⟨rfl, H.out, Ch.refl _ _⟩
set_option maxRecDepth 100000 in
set_option maxHeartbeats 2000000 in
theorem rest (w : World) (tb cb cap : Nat) (cs : List CoreS) (h : Tab w tb cb cap cs) (i : Int) (way now : Int) :
    Calls Try.prog 41 #[.pointer (some ⟨tb, 0, none⟩), .int .i64 i, .int .i64 way, .int .i64 now] w fun e w' => e = .returned (.int .i64 (onCore cs i 3 (restF way now)).2) ∧ Tab w' tb cb cap (onCore cs i 3 (restF way now)).1 ∧ Ch (· = cb) w w' := by
  have H := Lib.hid h
  have hd := h.hd
  have hfew := h.few
  have hl1 := h.lt1
  have hl2 := h.lt2
  have hfz := h.free
  have hne := h.ne
  rcases split cs i with ⟨n, c, rfl, hi⟩ | hi
  · rw [onCore_in hi]
    have hlt : n < cs.length := (List.getElem?_eq_some_iff.1 hi).1
    obtain ⟨a0, a1, a2, a3, a4, a5⟩ := h.rows n c hi
    clear h hi
    obtain ⟨p, idle, way0, since, steps, busy⟩ := c
    simp only [] at a0 a1 a2 a3 a4 a5
    unfold restF
    have hcase : way < 0 ∨ (0 ≤ way ∧ 8 ≤ way) ∨ (0 ≤ way ∧ way < 8 ∧ now < 0) ∨ (0 ≤ way ∧ way < 8 ∧ 0 ≤ now ∧ 1152921504606846976 < now) ∨ (0 ≤ way ∧ way < 8 ∧ 0 ≤ now ∧ now ≤ 1152921504606846976) := by omega
    have hbad : badRest way now = true ∨ (badRest way now = false ∧ 0 ≤ way ∧ way < 8 ∧ 0 ≤ now ∧ now ≤ 1152921504606846976) := by
      cases hb : badRest way now
      · right; simp only [badRest, decide_eq_false_iff_not] at hb; exact ⟨rfl, by omega, by omega, by omega, by omega⟩
      · left; rfl
    have hgood : badRest way now = true → way < 0 ∨ (0 ≤ way ∧ 8 ≤ way) ∨ (0 ≤ way ∧ way < 8 ∧ now < 0) ∨ (0 ≤ way ∧ way < 8 ∧ 0 ≤ now ∧ 1152921504606846976 < now) := by
      intro hb; simp only [badRest, decide_eq_true_eq] at hb; omega
    clear hcase
    rcases hbad with hb | ⟨hb, g1, g2, g3, g4⟩
    · rw [hb, if_pos rfl]
      rcases hgood hb with g1 | ⟨g1, g2⟩ | ⟨g1, g2, g3⟩ | ⟨g1, g2, g3, g4⟩
      all_goals clear hgood hb
      all_goals
        first | (have hbn : badNow now = true := by (unfold badNow; simp; omega)) | skip
        go_enter Try.func41, Try.ntmps41
        go_wp2
        go_returns
        refine ⟨rfl, H.out.set hlt _ ?_ ?_ ⟨?_, ?_, ?_, ?_, ?_, ?_⟩ ?_ ?_, ?_⟩
        all_goals first
          | (go_simp; done)
          | (intro o ho; go_simp; done)
          | (intro o; go_simp; done)
          | (repeat' (first | with_reducible exact Ch.refl _ _ | with_reducible assumption | (with_reducible refine Ch.setCell ?_ ?_ _) | (with_reducible refine Ch.alloc ?_ _) | (with_reducible refine Ch.drew ?_) | (with_reducible refine Ch.drewN ?_ _) | (intro _; rfl)))
    · rw [hb]
      clear hgood hb
      have hbn : badNow now = false := by unfold badNow; simp; omega
      cases p <;> cases idle
      all_goals
        simp only [Bool.not_true, Bool.not_false, Bool.or_true, Bool.or_false, Bool.true_or, Bool.false_or, Bool.false_eq_true, if_true, if_false]
        go_enter Try.func41, Try.ntmps41
        go_wp2
        go_returns
        refine ⟨rfl, H.out.set hlt _ ?_ ?_ ⟨?_, ?_, ?_, ?_, ?_, ?_⟩ ?_ ?_, ?_⟩
        all_goals first
          | (go_simp; done)
          | (intro o ho; go_simp; done)
          | (intro o; go_simp; done)
          | (repeat' (first | with_reducible exact Ch.refl _ _ | with_reducible assumption | (with_reducible refine Ch.setCell ?_ ?_ _) | (with_reducible refine Ch.alloc ?_ _) | (with_reducible refine Ch.drew ?_) | (with_reducible refine Ch.drewN ?_ _) | (intro _; rfl)))
    all_goals
      go_enter Try.func41, Try.ntmps41
      go_wp2
      go_returns
      refine ⟨rfl, H.out.set hlt _ ?_ ?_ ⟨?_, ?_, ?_, ?_, ?_, ?_⟩ ?_ ?_, ?_⟩
      all_goals first
        | (go_simp; done)
        | (intro o ho; go_simp; done)
        | (intro o; go_simp; done)
        | (repeat' (first | with_reducible exact Ch.refl _ _ | with_reducible assumption | (with_reducible refine Ch.setCell ?_ ?_ _) | (with_reducible refine Ch.alloc ?_ _) | (with_reducible refine Ch.drew ?_) | (with_reducible refine Ch.drewN ?_ _) | (intro _; rfl)))
  · rw [onCore_out hi]
    clear h
    rcases hi with hi | hi
    all_goals
      have hi2 : i < 0 ∨ (cs.length : Int) ≤ i := by omega
      go_enter Try.func41, Try.ntmps41
      go_wp2_with (go_at_call 49; refine (is_out _ _ _ _ _ _ hd hfew hi2).mono ?_; rintro e w1 ⟨rfl, rfl⟩)
      go_returns
      exact ⟨rfl, H.out, Ch.refl _ _⟩
set_option maxRecDepth 100000 in
set_option maxHeartbeats 2000000 in
theorem wake (w : World) (tb cb cap : Nat) (cs : List CoreS) (h : Tab w tb cb cap cs) (i : Int) (now : Int) (hs : ∀ c ∈ cs, 0 ≤ c.since ∧ c.since ≤ 1152921504606846976) :
    Calls Try.prog 43 #[.pointer (some ⟨tb, 0, none⟩), .int .i64 i, .int .i64 now] w fun e w' => e = .returned (.tuple #[.int .i64 (onCore cs i (0, 3) (wakeF now)).2.1, .int .i64 (onCore cs i (0, 3) (wakeF now)).2.2]) ∧ Tab w' tb cb cap (onCore cs i (0, 3) (wakeF now)).1 ∧ Ch (· = cb) w w' := by
  have H := Lib.hid h
  have hd := h.hd
  have hfew := h.few
  have hl1 := h.lt1
  have hl2 := h.lt2
  have hfz := h.free
  have hne := h.ne
  rcases split cs i with ⟨n, c, rfl, hi⟩ | hi
  · rw [onCore_in hi]
    have hlt : n < cs.length := (List.getElem?_eq_some_iff.1 hi).1
    obtain ⟨a0, a1, a2, a3, a4, a5⟩ := h.rows n c hi
    have hs1 := (hs c (List.mem_of_getElem? hi)).1
    have hs2 := (hs c (List.mem_of_getElem? hi)).2
    clear hs
    clear h hi
    obtain ⟨p, idle, way0, since, steps, busy⟩ := c
    simp only [] at a0 a1 a2 a3 a4 a5 hs1 hs2
    unfold wakeF
    have hbad : (badNow now = true ∧ (now < 0 ∨ (0 ≤ now ∧ 1152921504606846976 < now))) ∨ (badNow now = false ∧ 0 ≤ now ∧ now ≤ 1152921504606846976) := by
      cases hb : badNow now
      · right; simp only [badNow, decide_eq_false_iff_not] at hb; exact ⟨rfl, by omega, by omega⟩
      · left; simp only [badNow, decide_eq_true_eq] at hb; exact ⟨rfl, by omega⟩
    rcases hbad with ⟨hb, g1 | ⟨g1, g2⟩⟩ | ⟨hb, g1, g2⟩
    · rw [hb, if_pos rfl]
      go_enter Try.func43, Try.ntmps43
      go_wp2
      go_returns
      refine ⟨rfl, H.out.set hlt _ ?_ ?_ ⟨?_, ?_, ?_, ?_, ?_, ?_⟩ ?_ ?_, ?_⟩
      all_goals first
        | (go_simp; done)
        | (intro o ho; go_simp; done)
        | (intro o; go_simp; done)
        | (repeat' (first | with_reducible exact Ch.refl _ _ | with_reducible assumption | (with_reducible refine Ch.setCell ?_ ?_ _) | (with_reducible refine Ch.alloc ?_ _) | (with_reducible refine Ch.drew ?_) | (with_reducible refine Ch.drewN ?_ _) | (intro _; rfl)))
    · rw [hb, if_pos rfl]
      go_enter Try.func43, Try.ntmps43
      go_wp2
      go_returns
      refine ⟨rfl, H.out.set hlt _ ?_ ?_ ⟨?_, ?_, ?_, ?_, ?_, ?_⟩ ?_ ?_, ?_⟩
      all_goals first
        | (go_simp; done)
        | (intro o ho; go_simp; done)
        | (intro o; go_simp; done)
        | (repeat' (first | with_reducible exact Ch.refl _ _ | with_reducible assumption | (with_reducible refine Ch.setCell ?_ ?_ _) | (with_reducible refine Ch.alloc ?_ _) | (with_reducible refine Ch.drew ?_) | (with_reducible refine Ch.drewN ?_ _) | (intro _; rfl)))
    · rw [hb]
      cases idle
      · simp only [Bool.not_false, Bool.false_eq_true, if_true, if_false]
        go_enter Try.func43, Try.ntmps43
        go_wp2
        go_returns
        refine ⟨rfl, H.out.set hlt _ ?_ ?_ ⟨?_, ?_, ?_, ?_, ?_, ?_⟩ ?_ ?_, ?_⟩
        all_goals first
          | (go_simp; done)
          | (intro o ho; go_simp; done)
          | (intro o; go_simp; done)
          | (repeat' (first | with_reducible exact Ch.refl _ _ | with_reducible assumption | (with_reducible refine Ch.setCell ?_ ?_ _) | (with_reducible refine Ch.alloc ?_ _) | (with_reducible refine Ch.drew ?_) | (with_reducible refine Ch.drewN ?_ _) | (intro _; rfl)))
      · simp only [Bool.not_true, Bool.false_eq_true, if_false]
        by_cases hm : 0 < now - since
        · have e : later now since = now - since := if_pos hm
          have E := Lib.hid e
          clear e
          go_enter Try.func43, Try.ntmps43
          go_wp2
          go_returns
          refine ⟨by rw [E.out]; rfl, H.out.set hlt _ ?_ ?_ ⟨?_, ?_, ?_, ?_, ?_, ?_⟩ ?_ ?_, ?_⟩
          all_goals first
            | (go_simp; done)
            | (intro o ho; go_simp; done)
            | (intro o; go_simp; done)
            | (repeat' (first | with_reducible exact Ch.refl _ _ | with_reducible assumption | (with_reducible refine Ch.setCell ?_ ?_ _) | (with_reducible refine Ch.alloc ?_ _) | (with_reducible refine Ch.drew ?_) | (with_reducible refine Ch.drewN ?_ _) | (intro _; rfl)))
        · have e : later now since = 0 := if_neg hm
          have E := Lib.hid e
          clear e
          go_enter Try.func43, Try.ntmps43
          go_wp2
          go_returns
          refine ⟨by rw [E.out]; rfl, H.out.set hlt _ ?_ ?_ ⟨?_, ?_, ?_, ?_, ?_, ?_⟩ ?_ ?_, ?_⟩
          all_goals first
            | (go_simp; done)
            | (intro o ho; go_simp; done)
            | (intro o; go_simp; done)
            | (repeat' (first | with_reducible exact Ch.refl _ _ | with_reducible assumption | (with_reducible refine Ch.setCell ?_ ?_ _) | (with_reducible refine Ch.alloc ?_ _) | (with_reducible refine Ch.drew ?_) | (with_reducible refine Ch.drewN ?_ _) | (intro _; rfl)))
    all_goals
      go_enter Try.func43, Try.ntmps43
      go_wp2
      go_returns
      refine ⟨rfl, H.out.set hlt _ ?_ ?_ ⟨?_, ?_, ?_, ?_, ?_, ?_⟩ ?_ ?_, ?_⟩
      all_goals first
        | (go_simp; done)
        | (intro o ho; go_simp; done)
        | (intro o; go_simp; done)
        | (repeat' (first | with_reducible exact Ch.refl _ _ | with_reducible assumption | (with_reducible refine Ch.setCell ?_ ?_ _) | (with_reducible refine Ch.alloc ?_ _) | (with_reducible refine Ch.drew ?_) | (with_reducible refine Ch.drewN ?_ _) | (intro _; rfl)))
  · rw [onCore_out hi]
    clear h
    rcases hi with hi | hi
    all_goals
      have hi2 : i < 0 ∨ (cs.length : Int) ≤ i := by omega
      go_enter Try.func43, Try.ntmps43
      go_wp2_with (go_at_call 49; refine (is_out _ _ _ _ _ _ hd hfew hi2).mono ?_; rintro e w1 ⟨rfl, rfl⟩)
      go_returns
      exact ⟨rfl, H.out, Ch.refl _ _⟩
set_option maxRecDepth 100000 in
set_option maxHeartbeats 2000000 in
theorem count (w : World) (tb cb cap : Nat) (cs : List CoreS) (h : Tab w tb cb cap cs) (i : Int) (b : Bool) :
    Calls Try.prog 45 #[.pointer (some ⟨tb, 0, none⟩), .int .i64 i, .bool b] w fun e w' => e = .returned (.int .i64 (onCore cs i 3 (countF b)).2) ∧ Tab w' tb cb cap (onCore cs i 3 (countF b)).1 ∧ Ch (· = cb) w w' := by
  have H := Lib.hid h
  have hd := h.hd
  have hfew := h.few
  have hl1 := h.lt1
  have hl2 := h.lt2
  have hfz := h.free
  have hne := h.ne
  rcases split cs i with ⟨n, c, rfl, hi⟩ | hi
  · rw [onCore_in hi]
    have hlt : n < cs.length := (List.getElem?_eq_some_iff.1 hi).1
    obtain ⟨a0, a1, a2, a3, a4, a5⟩ := h.rows n c hi
    clear h hi
    obtain ⟨p, idle, way0, since, steps, busy⟩ := c
    simp only [] at a0 a1 a2 a3 a4 a5
    unfold countF
    cases b
    all_goals
      go_enter Try.func45, Try.ntmps45
      go_wp2
      go_region
      all_goals go_wp2
      all_goals (try (go_region; all_goals go_wp2))
      go_returns
      refine ⟨rfl, H.out.set hlt _ ?_ ?_ ⟨?_, ?_, ?_, ?_, ?_, ?_⟩ ?_ ?_, ?_⟩
      all_goals first
        | (go_simp; done)
        | (intro o ho; go_simp; done)
        | (intro o; go_simp; done)
        | (repeat' (first | with_reducible exact Ch.refl _ _ | with_reducible assumption | (with_reducible refine Ch.setCell ?_ ?_ _) | (with_reducible refine Ch.alloc ?_ _) | (with_reducible refine Ch.drew ?_) | (with_reducible refine Ch.drewN ?_ _) | (intro _; rfl)))
  · rw [onCore_out hi]
    clear h
    rcases hi with hi | hi
    all_goals
      have hi2 : i < 0 ∨ (cs.length : Int) ≤ i := by omega
      go_enter Try.func45, Try.ntmps45
      go_wp2_with (go_at_call 49; refine (is_out _ _ _ _ _ _ hd hfew hi2).mono ?_; rintro e w1 ⟨rfl, rfl⟩)
      go_returns
      exact ⟨rfl, H.out, Ch.refl _ _⟩
set_option maxRecDepth 100000 in
set_option maxHeartbeats 2000000 in
theorem take (w : World) (tb cb cap : Nat) (cs : List CoreS) (h : Tab w tb cb cap cs) (i : Int) :
    Calls Try.prog 47 #[.pointer (some ⟨tb, 0, none⟩), .int .i64 i] w fun e w' => e = .returned (.tuple #[.int .i64 (onCore cs i (0, 0, 3) takeF).2.1, .int .i64 (onCore cs i (0, 0, 3) takeF).2.2.1, .int .i64 (onCore cs i (0, 0, 3) takeF).2.2.2]) ∧ Tab w' tb cb cap (onCore cs i (0, 0, 3) takeF).1 ∧ Ch (· = cb) w w' := by
  have H := Lib.hid h
  have hd := h.hd
  have hfew := h.few
  have hl1 := h.lt1
  have hl2 := h.lt2
  have hfz := h.free
  have hne := h.ne
  rcases split cs i with ⟨n, c, rfl, hi⟩ | hi
  · rw [onCore_in hi]
    have hlt : n < cs.length := (List.getElem?_eq_some_iff.1 hi).1
    obtain ⟨a0, a1, a2, a3, a4, a5⟩ := h.rows n c hi
    clear h hi
    obtain ⟨p, idle, way0, since, steps, busy⟩ := c
    simp only [] at a0 a1 a2 a3 a4 a5
    unfold takeF
    all_goals
      go_enter Try.func47, Try.ntmps47
      go_wp2
      go_returns
      refine ⟨rfl, H.out.set hlt _ ?_ ?_ ⟨?_, ?_, ?_, ?_, ?_, ?_⟩ ?_ ?_, ?_⟩
      all_goals first
        | (go_simp; done)
        | (intro o ho; go_simp; done)
        | (intro o; go_simp; done)
        | (repeat' (first | with_reducible exact Ch.refl _ _ | with_reducible assumption | (with_reducible refine Ch.setCell ?_ ?_ _) | (with_reducible refine Ch.alloc ?_ _) | (with_reducible refine Ch.drew ?_) | (with_reducible refine Ch.drewN ?_ _) | (intro _; rfl)))
  · rw [onCore_out hi]
    clear h
    rcases hi with hi | hi
    all_goals
      have hi2 : i < 0 ∨ (cs.length : Int) ≤ i := by omega
      go_enter Try.func47, Try.ntmps47
      go_wp2_with (go_at_call 49; refine (is_out _ _ _ _ _ _ hd hfew hi2).mono ?_; rintro e w1 ⟨rfl, rfl⟩)
      go_returns
      exact ⟨rfl, H.out, Ch.refl _ _⟩
end Go.Proofs.Ytpefmgmhclbcbaa.CoreE
