/- known of layer 25: the meter of two cores, played with. -/
import Derived.Test.YtplppmgecknhiaaMeterE
namespace Go.Proofs.Ytplppmgecknhiaa.MeterF
open Go.RowKit Go.Proofs.Ytplppmgecknhiaa.MeterA Go.Proofs.Ytplppmgecknhiaa.MeterB Go.Proofs.Ytplppmgecknhiaa.MeterC Go.Proofs.Ytplppmgecknhiaa.MeterD Go.Proofs.Ytplppmgecknhiaa.MeterE Go.Proofs.Ytplppmgecknhiaa.Frame
set_option linter.unusedVariables false
set_option linter.unusedSimpArgs false
/-- The first core of a meter of two, in a block. -/
structure MetS (w : World) (tb cb : Nat) (k r0 r1 r2 r3 r4 r5 r6 r7 e : Int) : Prop where
  hd : w.cell? ⟨tb, 0, none⟩ = some (.slice (some ⟨cb, 0, none⟩) 2 2)
  c0 : w.cell? ⟨cb, 0, none⟩ = some (.int .i64 k)
  c1 : w.cell? ⟨cb, 1, none⟩ = some (.int .i64 r0)
  c2 : w.cell? ⟨cb, 2, none⟩ = some (.int .i64 r1)
  c3 : w.cell? ⟨cb, 3, none⟩ = some (.int .i64 r2)
  c4 : w.cell? ⟨cb, 4, none⟩ = some (.int .i64 r3)
  c5 : w.cell? ⟨cb, 5, none⟩ = some (.int .i64 r4)
  c6 : w.cell? ⟨cb, 6, none⟩ = some (.int .i64 r5)
  c7 : w.cell? ⟨cb, 7, none⟩ = some (.int .i64 r6)
  c8 : w.cell? ⟨cb, 8, none⟩ = some (.int .i64 r7)
  c9 : w.cell? ⟨cb, 9, none⟩ = some (.int .i64 e)
  fz : ∀ o, w.frozen? ⟨cb, o, none⟩ = false
  ne : tb ≠ cb
  lt1 : tb < w.heap.size
  lt2 : cb < w.heap.size
theorem info89 : (Try.prog.info? 89).map (fun i => (i.zero, i.size, i.bytes)) = some (some (.agg #[.int .i64 0, .int .i64 0, .int .i64 0, .int .i64 0, .int .i64 0, .int .i64 0, .int .i64 0, .int .i64 0, .int .i64 0, .int .i64 0]), 10, 80) := by kernel_rfl
theorem info_parts {i? : Option TypeInfo} {z : Value} {s b : Nat} (h : i?.map (fun i => (i.zero, i.size, i.bytes)) = some (some z, s, b)) : ∃ i, i? = some i ∧ i.zero = some z ∧ i.size = s ∧ i.bytes = b := by
  cases i? with
  | none => simp at h
  | some i => simp at h; exact ⟨i, rfl, h.1, h.2.1, h.2.2⟩
set_option maxRecDepth 100000 in
theorem new2 (w : World) : Calls Try.prog 70 #[.int .i64 2] w fun e w' => ∃ tb cb : Nat, e = .returned (.tuple #[.pointer (some ⟨tb, 0, none⟩), .int .i64 0]) ∧ w.heap.size ≤ tb ∧ w.heap.size ≤ cb ∧ MetS w' tb cb 0 0 0 0 0 0 0 0 0 0 ∧ Below w.heap.size w w' := by
  obtain ⟨i0, hi, hz0, hz1, hz2⟩ := info_parts info89
  go_enter Try.func70, Try.ntmps70
  go_wp2_with (at_make; refine wpList_make_full _ rfl _ _ 103 rfl w.heap.size 89 i0 _ 10 Try.underlying103 hi hz0 hz1 .i64 .i64 2 2 2 rfl rfl rfl rfl ?c2 ?c3 (Nat.le_refl _) ?_)
  case c2 => omega
  case c3 => unfold maxLen; omega
  intro w1 hown hg
  have hc : ∀ j, j < 10 → w1.cell? ⟨w.heap.size, j, none⟩ = some (.int .i64 0) := by
    intro j hj
    rw [hown.cellAt j (by omega)]
    have hcase : j = 0 ∨ j = 1 ∨ j = 2 ∨ j = 3 ∨ j = 4 ∨ j = 5 ∨ j = 6 ∨ j = 7 ∨ j = 8 ∨ j = 9 := by omega
    rcases hcase with rfl | rfl | rfl | rfl | rfl | rfl | rfl | rfl | rfl | rfl <;> simp [madeCells]
  have hf : ∀ o, w1.frozen? ⟨w.heap.size, o, none⟩ = false := by
    intro o
    rcases hown.2 with ⟨h, _⟩ | ⟨g, cap, cur, hv, hg, hh, _⟩
    · simp at h
    · simp at hv
      rw [← hv.1] at hh
      simp [World.frozen?, hh]
  have hb : Below w.heap.size w w1 := (Below.refl _ _).grown hg (Nat.le_refl _) (fun k h => by cases h)
  have hz : w.heap.size < w1.heap.size := by
    rcases hown.2 with ⟨h, _⟩ | ⟨g, cap, cur, hv, hg, hh, _⟩
    · simp at h
    · simp at hv
      rw [← hv.1] at hh
      exact lt_of_block hh
  clear hown hg hi hz0 hz1 hz2
  go_wp2
  go_returns
  refine ⟨w1.heap.size, w.heap.size, rfl, hb.size, Nat.le_refl _, ⟨?_, ?_, ?_, ?_, ?_, ?_, ?_, ?_, ?_, ?_, ?_, ?_, ?_, ?_, ?_⟩, hb.alloc hb.size _⟩
  all_goals first
    | (go_simp; done)
    | (have := hc 0 (by omega); go_simp; done)
    | (intro o; go_simp; done)
    | (simp; omega)
theorem within_yes (n : Int) (h1 : 0 ≤ n) (h2 : n ≤ 2147483648) (w : World) : Calls Try.prog 82 #[.int .i64 n] w fun e w' => e = .returned (.bool true) ∧ w = w' := by
  go_enter Try.func82, Try.ntmps82
  go_wp2
  go_returns
  exact ⟨by simp [h1, h2], rfl⟩
set_option maxRecDepth 100000 in
theorem find2 (w : World) (tb cb : Nat) (hd : w.cell? ⟨tb, 0, none⟩ = some (.slice (some ⟨cb, 0, none⟩) 2 2)) : Calls Try.prog 68 #[.pointer (some ⟨tb, 0, none⟩), .int .i64 0] w fun e w' => e = .returned (.tuple #[.pointer (some ⟨cb, 0, none⟩), .int .i64 0]) ∧ w = w' := by
  go_enter Try.func68, Try.ntmps68
  go_wp2
  go_returns
  exact ⟨rfl, rfl⟩
set_option maxRecDepth 100000 in
theorem pay1 (w : World) (tb cb : Nat) (h : MetS w tb cb 0 0 0 0 0 0 0 0 0 0) : Calls Try.prog 69 #[.pointer (some ⟨cb, 0, none⟩), .pointer (some ⟨cb, 0, none⟩), .int .i64 3, .int .i64 10] w fun e w' => e = .returned (.int .i64 0) ∧ MetS w' tb cb 3 0 0 0 0 0 0 0 0 30 ∧ Ch (· = cb) w w' := by
  obtain ⟨hd, c0, c1, c2, c3, c4, c5, c6, c7, c8, c9, fz, ne, lt1, lt2⟩ := h
  go_enter Try.func69, Try.ntmps69
  go_wp2_with (first
    | (go_at_call 82; first | (with_reducible refine (within_yes 3 (by omega) (by omega) _).mono ?_; rintro e w' ⟨rfl, rfl⟩) | (with_reducible refine (within_yes 10 (by omega) (by omega) _).mono ?_; rintro e w' ⟨rfl, rfl⟩))
    | (go_at_call 24; refine (Go.Proofs.Ytplppmgecknhiaa.NumD.add_any 0 30 ⟨by omega, by omega⟩ ⟨by omega, by omega⟩ _).mono ?_; rintro e w' ⟨rfl, rfl⟩; rw [show Go.Proofs.Ytplppmgecknhiaa.NumD.sumF (0 + 30) = (30, 0) from by decide]))
  go_returns
  refine ⟨rfl, ⟨?_, ?_, ?_, ?_, ?_, ?_, ?_, ?_, ?_, ?_, ?_, ?_, ?_, ?_, ?_⟩, ?_⟩
  all_goals first
    | (go_simp; done)
    | (intro o; go_simp; done)
    | (repeat' (first | with_reducible exact Ch.refl _ _ | with_reducible assumption | (with_reducible refine Ch.setCell ?_ ?_ _) | (with_reducible refine Ch.alloc ?_ _) | (with_reducible refine Ch.drew ?_) | (with_reducible refine Ch.drewN ?_ _) | (intro _; rfl)))
set_option maxRecDepth 100000 in
theorem pay2 (w : World) (tb cb : Nat) (h : MetS w tb cb 3 0 0 0 0 0 0 0 0 30) : Calls Try.prog 69 #[.pointer (some ⟨cb, 0, none⟩), .pointer (some ⟨cb, 2, none⟩), .int .i64 1, .int .i64 2] w fun e w' => e = .returned (.int .i64 0) ∧ MetS w' tb cb 3 0 1 0 0 0 0 0 0 32 ∧ Ch (· = cb) w w' := by
  obtain ⟨hd, c0, c1, c2, c3, c4, c5, c6, c7, c8, c9, fz, ne, lt1, lt2⟩ := h
  go_enter Try.func69, Try.ntmps69
  go_wp2_with (first
    | (go_at_call 82; first | (with_reducible refine (within_yes 1 (by omega) (by omega) _).mono ?_; rintro e w' ⟨rfl, rfl⟩) | (with_reducible refine (within_yes 2 (by omega) (by omega) _).mono ?_; rintro e w' ⟨rfl, rfl⟩))
    | (go_at_call 24; refine (Go.Proofs.Ytplppmgecknhiaa.NumD.add_any 30 2 ⟨by omega, by omega⟩ ⟨by omega, by omega⟩ _).mono ?_; rintro e w' ⟨rfl, rfl⟩; rw [show Go.Proofs.Ytplppmgecknhiaa.NumD.sumF (30 + 2) = (32, 0) from by decide]))
  go_returns
  refine ⟨rfl, ⟨?_, ?_, ?_, ?_, ?_, ?_, ?_, ?_, ?_, ?_, ?_, ?_, ?_, ?_, ?_⟩, ?_⟩
  all_goals first
    | (go_simp; done)
    | (intro o; go_simp; done)
    | (repeat' (first | with_reducible exact Ch.refl _ _ | with_reducible assumption | (with_reducible refine Ch.setCell ?_ ?_ _) | (with_reducible refine Ch.alloc ?_ _) | (with_reducible refine Ch.drew ?_) | (with_reducible refine Ch.drewN ?_ _) | (intro _; rfl)))
end Go.Proofs.Ytplppmgecknhiaa.MeterF
