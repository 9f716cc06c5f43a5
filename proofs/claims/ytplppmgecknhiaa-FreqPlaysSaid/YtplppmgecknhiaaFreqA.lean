/- Contracts of freq.Gov's methods. -/
import Derived.Test.YtplppmgecknhiaaNumE
import Derived.Test.YtplppmgecknhiaaFrame
import Derived.Test.YtplppmgecknhiaaWalkNumRises
import Derived.LoopN
namespace Go.Proofs.Ytplppmgecknhiaa.FreqA
open Go.RowKit Go.Proofs.Ytplppmgecknhiaa.NumD Go.Proofs.Ytplppmgecknhiaa.NumE Go.Proofs.Ytplppmgecknhiaa.Frame
set_option linter.unusedVariables false
set_option linter.unusedSimpArgs false
structure FS where
  b0 : Int
  a0 : Int
  b1 : Int
  a1 : Int
  b2 : Int
  a2 : Int
  b3 : Int
  a3 : Int
def good (b a : Int) : Prop := 0 ≤ b ∧ b ≤ a ∧ a ≤ 1099511627776
structure FS.ok (f : FS) : Prop where
  g0 : good f.b0 f.a0
  g1 : good f.b1 f.a1
  g2 : good f.b2 f.a2
  g3 : good f.b3 f.a3
def FS.zero : FS := ⟨0, 0, 0, 0, 0, 0, 0, 0⟩
def FS.put (f : FS) (i : Nat) (b a : Int) : FS := match i with
  | 0 => { f with b0 := b, a0 := a }
  | 1 => { f with b1 := b, a1 := a }
  | 2 => { f with b2 := b, a2 := a }
  | _ => { f with b3 := b, a3 := a }
theorem FS.put_ok {f : FS} (h : f.ok) (i : Nat) {b a : Int} (g : good b a) : (f.put i b a).ok := by
  obtain ⟨g0, g1, g2, g3⟩ := h
  rcases i with _ | _ | _ | i
  · exact ⟨g, g1, g2, g3⟩
  · exact ⟨g0, g, g2, g3⟩
  · exact ⟨g0, g1, g, g3⟩
  · exact ⟨g0, g1, g2, g⟩
def FS.busy (f : FS) : Int := f.b0 + f.b1 + f.b2 + f.b3
def FS.all (f : FS) : Int := f.a0 + f.a1 + f.a2 + f.a3
def busyF (f : FS) : Int := percentF f.busy f.all
/-- A governor lies in a block. -/
structure Gov (w : World) (g : Nat) (lo hi : Int) (f : FS) (i : Nat) : Prop where
  c0 : w.cell? ⟨g, 0, none⟩ = some (.int .i64 lo)
  c1 : w.cell? ⟨g, 1, none⟩ = some (.int .i64 hi)
  c2 : w.cell? ⟨g, 2, none⟩ = some (.int .i64 f.b0)
  c3 : w.cell? ⟨g, 3, none⟩ = some (.int .i64 f.a0)
  c4 : w.cell? ⟨g, 4, none⟩ = some (.int .i64 f.b1)
  c5 : w.cell? ⟨g, 5, none⟩ = some (.int .i64 f.a1)
  c6 : w.cell? ⟨g, 6, none⟩ = some (.int .i64 f.b2)
  c7 : w.cell? ⟨g, 7, none⟩ = some (.int .i64 f.a2)
  c8 : w.cell? ⟨g, 8, none⟩ = some (.int .i64 f.b3)
  c9 : w.cell? ⟨g, 9, none⟩ = some (.int .i64 f.a3)
  c10 : w.cell? ⟨g, 10, none⟩ = some (.int .i64 i)
  fz : ∀ o, w.frozen? ⟨g, o, none⟩ = false
  lt : g < w.heap.size
theorem Gov.ch {F : Nat → Prop} {w w' : World} {g : Nat} {lo hi : Int} {f : FS} {i : Nat} (h : Gov w g lo hi f i) (hc : Ch F w w') (hF : ¬ F g) : Gov w' g lo hi f i :=
  ⟨(hc.cell h.lt hF).trans h.c0, (hc.cell h.lt hF).trans h.c1, (hc.cell h.lt hF).trans h.c2, (hc.cell h.lt hF).trans h.c3, (hc.cell h.lt hF).trans h.c4, (hc.cell h.lt hF).trans h.c5, (hc.cell h.lt hF).trans h.c6, (hc.cell h.lt hF).trans h.c7, (hc.cell h.lt hF).trans h.c8, (hc.cell h.lt hF).trans h.c9, (hc.cell h.lt hF).trans h.c10,
    fun o => (hc.frozen h.lt hF).trans (h.fz o), Nat.lt_of_lt_of_le h.lt hc.size⟩
theorem Gov.below {w w' : World} {g : Nat} {lo hi : Int} {f : FS} {i : Nat} (h : Gov w g lo hi f i) (hb : Below w.heap.size w w') : Gov w' g lo hi f i := h.ch (F := fun _ => False) (Ch.of_below hb) (fun h => h)
def rightB (lo hi : Int) : Bool := decide (1 ≤ lo) && decide (hi ≤ 100000) && decide (lo ≤ hi)
theorem right_any (lo hi : Int) (w : World) : Calls Try.prog 66 #[.int .i64 lo, .int .i64 hi] w fun e w' => e = .returned (.bool (rightB lo hi)) ∧ w = w' := by
  have hcase : lo < 1 ∨ (1 ≤ lo ∧ 100000 < hi) ∨ (1 ≤ lo ∧ hi ≤ 100000) := by omega
  rcases hcase with a | ⟨a, b⟩ | ⟨a, b⟩
  · have e : rightB lo hi = false := by simp [rightB]; omega
    rw [e]
    go_enter Try.func66, Try.ntmps66
    go_wp2
    go_returns
    exact ⟨rfl, rfl⟩
  · have e : rightB lo hi = false := by simp [rightB]; omega
    rw [e]
    go_enter Try.func66, Try.ntmps66
    go_wp2
    go_returns
    exact ⟨rfl, rfl⟩
  · have e : rightB lo hi = decide (lo ≤ hi) := by simp [rightB, a, b]
    rw [e]
    go_enter Try.func66, Try.ntmps66
    go_wp2
    go_returns
    exact ⟨rfl, rfl⟩
theorem limits_any (w : World) (g : Nat) (lo hi : Int) (f : FS) (i : Nat) (h : Gov w g lo hi f i) :
    Calls Try.prog 48 #[.pointer (some ⟨g, 0, none⟩)] w fun e w' => e = .returned (.tuple #[.int .i64 lo, .int .i64 hi]) ∧ ∃ n, w' = w.drewN n := by
  obtain ⟨c0, c1, c2, c3, c4, c5, c6, c7, c8, c9, c10, fz, lt⟩ := h
  go_enter Try.func48, Try.ntmps48
  go_wp2
  go_quiet (fail)
  try go_wp2
  go_returns
  exact ⟨rfl, _, rfl⟩
set_option maxHeartbeats 1000000 in
set_option maxRecDepth 100000 in
theorem busy_any (w : World) (g : Nat) (lo hi : Int) (f : FS) (i : Nat) (h : Gov w g lo hi f i) (ok : f.ok) :
    Calls Try.prog 50 #[.pointer (some ⟨g, 0, none⟩)] w fun e w' => e = .returned (.int .i64 (busyF f)) ∧ Below w.heap.size w w' := by
  obtain ⟨c0, c1, c2, c3, c4, c5, c6, c7, c8, c9, c10, fz, lt⟩ := h
  obtain ⟨b0, a0, b1, a1, b2, a2, b3, a3⟩ := f
  obtain ⟨⟨g00, g01, g02⟩, ⟨g10, g11, g12⟩, ⟨g20, g21, g22⟩, ⟨g30, g31, g32⟩⟩ := ok
  simp only [] at *
  unfold busyF FS.busy FS.all
  simp only []
  have s0 : wrap64 b0 = b0 := by unfold wrap64; omega
  have s1 : wrap64 (b0 + b1) = b0 + b1 := by unfold wrap64; omega
  have s2 : wrap64 (b0 + b1 + b2) = b0 + b1 + b2 := by unfold wrap64; omega
  have s3 : wrap64 (b0 + b1 + b2 + b3) = b0 + b1 + b2 + b3 := by unfold wrap64; omega
  have t0 : wrap64 a0 = a0 := by unfold wrap64; omega
  have t1 : wrap64 (a0 + a1) = a0 + a1 := by unfold wrap64; omega
  have t2 : wrap64 (a0 + a1 + a2) = a0 + a1 + a2 := by unfold wrap64; omega
  have t3 : wrap64 (a0 + a1 + a2 + a3) = a0 + a1 + a2 + a3 := by unfold wrap64; omega
  have hB := Lib.hid (show In64 (b0 + b1 + b2 + b3) from ⟨by omega, by omega⟩)
  have hA := Lib.hid (show In64 (a0 + a1 + a2 + a3) from ⟨by omega, by omega⟩)
  have i0 : ∀ w : World, (Instr.index 78 (.agg #[.int .i64 b0, .int .i64 a0, .int .i64 b1, .int .i64 a1, .int .i64 b2, .int .i64 a2, .int .i64 b3, .int .i64 a3]) (.int .i64 0)).run Try.prog w = .ok (.agg #[.int .i64 b0, .int .i64 a0]) w := fun _ => by kernel_rfl
  have i1 : ∀ w : World, (Instr.index 78 (.agg #[.int .i64 b0, .int .i64 a0, .int .i64 b1, .int .i64 a1, .int .i64 b2, .int .i64 a2, .int .i64 b3, .int .i64 a3]) (.int .i64 1)).run Try.prog w = .ok (.agg #[.int .i64 b1, .int .i64 a1]) w := fun _ => by kernel_rfl
  have i2 : ∀ w : World, (Instr.index 78 (.agg #[.int .i64 b0, .int .i64 a0, .int .i64 b1, .int .i64 a1, .int .i64 b2, .int .i64 a2, .int .i64 b3, .int .i64 a3]) (.int .i64 2)).run Try.prog w = .ok (.agg #[.int .i64 b2, .int .i64 a2]) w := fun _ => by kernel_rfl
  have i3 : ∀ w : World, (Instr.index 78 (.agg #[.int .i64 b0, .int .i64 a0, .int .i64 b1, .int .i64 a1, .int .i64 b2, .int .i64 a2, .int .i64 b3, .int .i64 a3]) (.int .i64 3)).run Try.prog w = .ok (.agg #[.int .i64 b3, .int .i64 a3]) w := fun _ => by kernel_rfl
  clear g00 g01 g02 g10 g11 g12 g20 g21 g22 g30 g31 g32 c0 c1 c10
  go_enter Try.func50, Try.ntmps50
  go_wp2
  refine wp_loop_rounds 5 ?_
  iterate 5 (rw [rounds_succ]; go_wp2_with fail)
  refine (percent_any _ _ hB.out hA.out _).mono ?_
  rintro e w1 ⟨rfl, n, hn⟩
  rw [hn]
  clear hn
  go_wp2
  go_returns
  refine ⟨rfl, below_drewN ?_ _⟩
  go_grown
end Go.Proofs.Ytplppmgecknhiaa.FreqA
