/- Contracts of core.Table's Get, of the methods of no table, and of known: it returns true. -/
import Derived.Test.YtpefmgmhclbcbaaCoreB
import Derived.Test.YtpefmgmhclbcbaaCoreD
import Derived.Test.YtpefmgmhclbcbaaCoreF
namespace Go.Proofs.Ytpefmgmhclbcbaa.CoreG
open Go.RowKit Go.Proofs.Ytpefmgmhclbcbaa.Frame Go.Proofs.Ytpefmgmhclbcbaa.CoreC Go.Proofs.Ytpefmgmhclbcbaa.CoreF
open Go.Proofs.Ytpefmgmhclbcbaa.CoreA (wants bcell)
open Go.Proofs.Ytpefmgmhclbcbaa.CoreB (next next_any)
set_option linter.unusedVariables false
set_option linter.unusedSimpArgs false

def getF (cs : List CoreS) (i : Int) : CoreS × Int := (onCore cs i (CoreS.none, 3) (fun c => (c, c, 0))).2
set_option maxRecDepth 100000 in
set_option maxHeartbeats 400000 in
theorem get (w : World) (tb cb cap : Nat) (cs : List CoreS) (h : Tab w tb cb cap cs) (i : Int) :
    Calls Try.prog 48 #[.pointer (some ⟨tb, 0, none⟩), .int .i64 i] w fun e w' => e = .returned (.tuple #[(getF cs i).1.val, .int .i64 (getF cs i).2]) ∧ Below w.heap.size w w' := by
  have hd := h.hd
  have hfew := h.few
  have hl1 := h.lt1
  have hl2 := h.lt2
  unfold getF
  rcases split cs i with ⟨n, c, rfl, hi⟩ | hi
  · rw [onCore_in hi]
    have hlt : n < cs.length := (List.getElem?_eq_some_iff.1 hi).1
    obtain ⟨a0, a1, a2, a3, a4, a5⟩ := h.rows n c hi
    clear h hi
    go_enter Try.func48, Try.ntmps48
    go_wp2
    go_returns
    exact ⟨rfl, by go_grown⟩
  · rw [onCore_out hi]
    clear h
    rcases hi with hi | hi
    all_goals
      go_enter Try.func48, Try.ntmps48
      go_wp2
      go_returns
      exact ⟨rfl, by go_grown⟩
theorem new_two (w : World) : Calls Try.prog 36 #[.int .i64 2] w (Made w 2) := new_yes w 2 (by omega) (by omega)
theorem k1 : onCore (List.replicate 2 onS) 1 3 (restF 2 5) = ([onS, ⟨true, true, 2, 5, 0, 0⟩], 0) := by rfl
theorem k2 : onCore [onS, ⟨true, true, 2, 5, 0, 0⟩] 1 (0, 3) (wakeF 9) = ([onS, onS], 4, 0) := by rfl
theorem k3 : getF [onS, onS] 1 = (onS, 0) := by rfl
theorem k4 : next true true (wants false false false true true false false false false) = 1 := by rfl
theorem k5 : next true false (wants false false false true true false false false false) = 4 := by rfl
set_option maxRecDepth 100000 in
set_option maxHeartbeats 2000000 in
theorem known_ok (w : World) : Calls Try.prog 30 #[] w fun e w' => e = .returned (.bool true) ∧ Below w.heap.size w w' := by
  go_enter Try.func30, Try.ntmps30
  go_wp2_with fail
  refine (new_two _).mono ?_
  rintro e w1 ⟨tb, cb, cap, rfl, g1, g2, hT, hC⟩
  have HT := Lib.hid hT
  have HC := Lib.hid hC
  clear hT hC
  go_wp2_with fail
  refine (CoreD.rest _ _ _ _ _ HT.out 1 2 5).mono ?_
  rintro e w2 ⟨rfl, hT2, hC2⟩
  rw [k1] at hT2 ⊢
  have HT2 := Lib.hid hT2
  have HC2 := Lib.hid hC2
  clear hT2 hC2
  go_wp2_with fail
  refine (CoreD.wake _ _ _ _ _ HT2.out 1 9 (by intro c hc; simp [onS] at hc; rcases hc with rfl | rfl <;> simp)).mono ?_
  rintro e w3 ⟨rfl, hT3, hC3⟩
  rw [k2] at hT3 ⊢
  have HT3 := Lib.hid hT3
  have HC3 := Lib.hid hC3
  clear hT3 hC3
  go_wp2_with fail
  refine (get _ _ _ _ _ HT3.out 1).mono ?_
  rintro e w4 ⟨rfl, hB4⟩
  rw [k3]
  simp only [CoreS.val, onS]
  have hall : Ch (fun k => k = cb) ((w.alloc (.cells #[.bool true, .bool true, .int .i64 0, .int .i64 0, .int .i64 0, .int .i64 0] 52)).alloc (.cells #[.bool false, .bool false, .bool false, .bool true, .bool true, .bool false, .bool false, .bool false, .bool false] 54)) w4 :=
    (((HC.out.mono (fun _ _ h => h.elim)).trans HC2.out).trans HC3.out).trans (Ch.of_below hB4)
  have hz4 : w.heap.size + 1 < w4.heap.size := by have := hall.size; simp at this; omega
  have hz5 : w.heap.size < w4.heap.size := by omega
  simp only [World.size_alloc] at g1 g2
  have c0 : w4.cell? ⟨w.heap.size, 0, none⟩ = some (.bool true) := (hall.cell (by simp; omega) (by omega)).trans (by go_simp)
  have c1 : w4.cell? ⟨w.heap.size, 1, none⟩ = some (.bool true) := (hall.cell (by simp; omega) (by omega)).trans (by go_simp)
  have c2 : w4.cell? ⟨w.heap.size, 2, none⟩ = some (.int .i64 0) := (hall.cell (by simp; omega) (by omega)).trans (by go_simp)
  have c3 : w4.cell? ⟨w.heap.size, 3, none⟩ = some (.int .i64 0) := (hall.cell (by simp; omega) (by omega)).trans (by go_simp)
  have c4 : w4.cell? ⟨w.heap.size, 4, none⟩ = some (.int .i64 0) := (hall.cell (by simp; omega) (by omega)).trans (by go_simp)
  have c5 : w4.cell? ⟨w.heap.size, 5, none⟩ = some (.int .i64 0) := (hall.cell (by simp; omega) (by omega)).trans (by go_simp)
  have f0 : w4.cell? ⟨w.heap.size + 1, 0, none⟩ = some (.bool false) := (hall.cell (by simp) (by omega)).trans (by go_simp)
  have f1 : w4.cell? ⟨w.heap.size + 1, 1, none⟩ = some (.bool false) := (hall.cell (by simp) (by omega)).trans (by go_simp)
  have f2 : w4.cell? ⟨w.heap.size + 1, 2, none⟩ = some (.bool false) := (hall.cell (by simp) (by omega)).trans (by go_simp)
  have f3 : w4.cell? ⟨w.heap.size + 1, 3, none⟩ = some (.bool true) := (hall.cell (by simp) (by omega)).trans (by go_simp)
  have f4 : w4.cell? ⟨w.heap.size + 1, 4, none⟩ = some (.bool true) := (hall.cell (by simp) (by omega)).trans (by go_simp)
  have f5 : w4.cell? ⟨w.heap.size + 1, 5, none⟩ = some (.bool false) := (hall.cell (by simp) (by omega)).trans (by go_simp)
  have f6 : w4.cell? ⟨w.heap.size + 1, 6, none⟩ = some (.bool false) := (hall.cell (by simp) (by omega)).trans (by go_simp)
  have f7 : w4.cell? ⟨w.heap.size + 1, 7, none⟩ = some (.bool false) := (hall.cell (by simp) (by omega)).trans (by go_simp)
  have f8 : w4.cell? ⟨w.heap.size + 1, 8, none⟩ = some (.bool false) := (hall.cell (by simp) (by omega)).trans (by go_simp)
  have HA := Lib.hid ((((Below.refl w.heap.size w).alloc (Nat.le_refl _) (.cells #[.bool true, .bool true, .int .i64 0, .int .i64 0, .int .i64 0, .int .i64 0] 52)).alloc (by simp) (.cells #[.bool false, .bool false, .bool false, .bool true, .bool true, .bool false, .bool false, .bool false, .bool false] 54)).trans (hall.below (B := w.heap.size) (by simp; omega) (fun k hk e => by omega)))
  clear hall hB4 HT HC HT2 HC2 HT3 HC3
  go_wp2_with fail
  refine (next_any _ _ _ _ _ _ _ _ _ _ _ _ _ _ _ _).mono ?_
  rintro e w6 ⟨rfl, hB6⟩
  rw [k4]
  have hA6 := Lib.hid ((HA.out.alloc (by omega) (.cells #[.bool true, .bool false, .int .i64 0, .int .i64 0, .int .i64 0, .int .i64 0] 52)).trans (hB6.mono (by simp; omega)))
  have hz6 : w4.heap.size + 1 ≤ w6.heap.size := by have := hB6.size; simp at this; omega
  have q0 : w6.cell? ⟨w.heap.size + 1, 0, none⟩ = some (.bool false) := (hB6.cell (p := ⟨w.heap.size + 1, 0, none⟩) (by simp; omega)).trans (by go_simp)
  have q1 : w6.cell? ⟨w.heap.size + 1, 1, none⟩ = some (.bool false) := (hB6.cell (p := ⟨w.heap.size + 1, 1, none⟩) (by simp; omega)).trans (by go_simp)
  have q2 : w6.cell? ⟨w.heap.size + 1, 2, none⟩ = some (.bool false) := (hB6.cell (p := ⟨w.heap.size + 1, 2, none⟩) (by simp; omega)).trans (by go_simp)
  have q3 : w6.cell? ⟨w.heap.size + 1, 3, none⟩ = some (.bool true) := (hB6.cell (p := ⟨w.heap.size + 1, 3, none⟩) (by simp; omega)).trans (by go_simp)
  have q4 : w6.cell? ⟨w.heap.size + 1, 4, none⟩ = some (.bool true) := (hB6.cell (p := ⟨w.heap.size + 1, 4, none⟩) (by simp; omega)).trans (by go_simp)
  have q5 : w6.cell? ⟨w.heap.size + 1, 5, none⟩ = some (.bool false) := (hB6.cell (p := ⟨w.heap.size + 1, 5, none⟩) (by simp; omega)).trans (by go_simp)
  have q6 : w6.cell? ⟨w.heap.size + 1, 6, none⟩ = some (.bool false) := (hB6.cell (p := ⟨w.heap.size + 1, 6, none⟩) (by simp; omega)).trans (by go_simp)
  have q7 : w6.cell? ⟨w.heap.size + 1, 7, none⟩ = some (.bool false) := (hB6.cell (p := ⟨w.heap.size + 1, 7, none⟩) (by simp; omega)).trans (by go_simp)
  have q8 : w6.cell? ⟨w.heap.size + 1, 8, none⟩ = some (.bool false) := (hB6.cell (p := ⟨w.heap.size + 1, 8, none⟩) (by simp; omega)).trans (by go_simp)
  have x0 : w6.cell? ⟨w4.heap.size, 0, none⟩ = some (.bool true) := (hB6.cell (p := ⟨w4.heap.size, 0, none⟩) (by simp)).trans (by go_simp)
  have x1 : w6.cell? ⟨w4.heap.size, 1, none⟩ = some (.bool false) := (hB6.cell (p := ⟨w4.heap.size, 1, none⟩) (by simp)).trans (by go_simp)
  have x2 : w6.cell? ⟨w4.heap.size, 2, none⟩ = some (.int .i64 0) := (hB6.cell (p := ⟨w4.heap.size, 2, none⟩) (by simp)).trans (by go_simp)
  have x3 : w6.cell? ⟨w4.heap.size, 3, none⟩ = some (.int .i64 0) := (hB6.cell (p := ⟨w4.heap.size, 3, none⟩) (by simp)).trans (by go_simp)
  have x4 : w6.cell? ⟨w4.heap.size, 4, none⟩ = some (.int .i64 0) := (hB6.cell (p := ⟨w4.heap.size, 4, none⟩) (by simp)).trans (by go_simp)
  have x5 : w6.cell? ⟨w4.heap.size, 5, none⟩ = some (.int .i64 0) := (hB6.cell (p := ⟨w4.heap.size, 5, none⟩) (by simp)).trans (by go_simp)
  clear hB6 c0 c1 c2 c3 c4 c5 f0 f1 f2 f3 f4 f5 f6 f7 f8
  go_wp2_with fail
  refine (next_any _ _ _ _ _ _ _ _ _ _ _ _ _ _ _ _).mono ?_
  rintro e w7 ⟨rfl, hB7⟩
  rw [k5]
  have y0 : w7.cell? ⟨w4.heap.size, 0, none⟩ = some (.bool true) := (hB7.cell (p := ⟨w4.heap.size, 0, none⟩) (by show w4.heap.size < _; omega)).trans (by go_simp)
  have y1 : w7.cell? ⟨w4.heap.size, 1, none⟩ = some (.bool false) := (hB7.cell (p := ⟨w4.heap.size, 1, none⟩) (by show w4.heap.size < _; omega)).trans (by go_simp)
  have y2 : w7.cell? ⟨w4.heap.size, 2, none⟩ = some (.int .i64 0) := (hB7.cell (p := ⟨w4.heap.size, 2, none⟩) (by show w4.heap.size < _; omega)).trans (by go_simp)
  have y3 : w7.cell? ⟨w4.heap.size, 3, none⟩ = some (.int .i64 0) := (hB7.cell (p := ⟨w4.heap.size, 3, none⟩) (by show w4.heap.size < _; omega)).trans (by go_simp)
  have y4 : w7.cell? ⟨w4.heap.size, 4, none⟩ = some (.int .i64 0) := (hB7.cell (p := ⟨w4.heap.size, 4, none⟩) (by show w4.heap.size < _; omega)).trans (by go_simp)
  have y5 : w7.cell? ⟨w4.heap.size, 5, none⟩ = some (.int .i64 0) := (hB7.cell (p := ⟨w4.heap.size, 5, none⟩) (by show w4.heap.size < _; omega)).trans (by go_simp)
  have H7 := Lib.hid (hA6.out.trans (hB7.mono (by omega)))
  clear hB7 q0 q1 q2 q3 q4 q5 q6 q7 q8 x0 x1 x2 x3 x4 x5
  go_wp2
  go_returns
  exact ⟨rfl, H7.out⟩
end Go.Proofs.Ytpefmgmhclbcbaa.CoreG
