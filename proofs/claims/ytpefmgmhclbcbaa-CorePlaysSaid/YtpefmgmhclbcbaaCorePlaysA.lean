/- What the walk of CorePlays leans on: invariants of tables of cores, the acts' cells, the way in which there is no table. -/
import Derived.Test.YtpefmgmhclbcbaaCoreE
import Derived.Test.YtpefmgmhclbcbaaCoreG
import Derived.Test.YtpefmgmhclbcbaaOpen
import Derived.Deep.RegionHeld3
namespace Go.Proofs.Ytpefmgmhclbcbaa.CorePlaysA
open Go.RowKit Go.Proofs.Ytpefmgmhclbcbaa.Frame Go.Proofs.Ytpefmgmhclbcbaa.Open
open Go.Proofs.Ytpefmgmhclbcbaa.CoreC Go.Proofs.Ytpefmgmhclbcbaa.CoreF Go.Proofs.Ytpefmgmhclbcbaa.CoreG
set_option linter.unusedVariables false
set_option linter.unusedSimpArgs false

def OkS (cs : List CoreS) : Prop := ∀ c ∈ cs, 0 ≤ c.since ∧ c.since ≤ 1152921504606846976
theorem okS_new (n : Nat) : OkS (List.replicate n onS) := by
  intro c hc
  obtain ⟨_, rfl⟩ := List.mem_replicate.1 hc
  simp [onS]
theorem okS_on {β : Type} {cs : List CoreS} (h : OkS cs) (i : Int) (out : β) (f : CoreS → CoreS × β) (hf : ∀ c, (0 ≤ c.since ∧ c.since ≤ 1152921504606846976) → (0 ≤ (f c).1.since ∧ (f c).1.since ≤ 1152921504606846976)) : OkS (onCore cs i out f).1 := by
  rcases split cs i with ⟨n, c, rfl, hi⟩ | hi
  · rw [onCore_in hi]
    intro d hd
    rcases List.mem_or_eq_of_mem_set hd with hd | rfl
    · exact h d hd
    · exact hf c (h c (List.mem_of_getElem? hi))
  · rw [onCore_out hi]
    exact h
theorem okS_power {cs : List CoreS} (h : OkS cs) (i : Int) (on : Bool) : OkS (onCore cs i 3 (powerF on)).1 := okS_on h i 3 _ (fun c hc => by unfold powerF; split <;> simp_all)
theorem okS_rest {cs : List CoreS} (h : OkS cs) (i way now : Int) : OkS (onCore cs i 3 (restF way now)).1 := okS_on h i 3 _ (fun c hc => by
  unfold restF
  split
  · exact hc
  · rename_i hb
    split
    · exact hc
    · simp [badRest] at hb
      exact ⟨by simp; omega, by simp; omega⟩)
theorem okS_wake {cs : List CoreS} (h : OkS cs) (i now : Int) : OkS (onCore cs i ((0 : Int), (3 : Int)) (wakeF now)).1 := okS_on h i _ _ (fun c hc => by unfold wakeF; split <;> (try split) <;> simp_all)
theorem okS_count {cs : List CoreS} (h : OkS cs) (i : Int) (b : Bool) : OkS (onCore cs i 3 (countF b)).1 := okS_on h i 3 _ (fun c hc => hc)
theorem okS_take {cs : List CoreS} (h : OkS cs) (i : Int) : OkS (onCore cs i ((0 : Int), (0 : Int), (3 : Int)) takeF).1 := okS_on h i _ _ (fun c hc => hc)

theorem is_in (w : World) (tb cb cap : Nat) (cs : List CoreS) (h : Tab w tb cb cap cs) (i : Int) (h0 : 0 ≤ i) (h1 : i < cs.length) :
    Calls Try.prog 49 #[.pointer (some ⟨tb, 0, none⟩), .int .i64 i] w fun e w' => e = .returned (.bool true) ∧ w = w' := by
  have hd := h.hd
  have hfew := h.few
  clear h
  go_enter Try.func49, Try.ntmps49
  go_wp2
  go_returns
  exact ⟨rfl, rfl⟩

def ks : List FK := [.int .i64, .int .i64, .bool, .int .i64, .int .i64]
/-- The acts' cells, at a place that is written out. -/
theorem acts_at {W : World} {a : Option Addr} {len : Nat} {V : Nat → Nat → Value} (h : StructRow W a len ks V) (hp : 0 < len) : ∃ b off, a = some ⟨b, off, none⟩ ∧ b < W.heap.size ∧ ∀ i, i < len →
    W.cell? ⟨b, off + i * 5, none⟩ = some (.int .i64 (numOf (V i 0))) ∧ W.cell? ⟨b, off + i * 5 + 1, none⟩ = some (.int .i64 (numOf (V i 1))) ∧ W.cell? ⟨b, off + i * 5 + 2, none⟩ = some (.bool (boolOf (V i 2))) ∧
    W.cell? ⟨b, off + i * 5 + 3, none⟩ = some (.int .i64 (numOf (V i 3))) ∧ W.cell? ⟨b, off + i * 5 + 4, none⟩ = some (.int .i64 (numOf (V i 4))) := by
  obtain ⟨⟨b, off, sp⟩, rfl⟩ := h.1 hp
  have hsp : sp = none := by
    have h0 := (h.2 0 hp _ rfl 0 _ rfl).1
    cases sp with
    | none => rfl
    | some q => simp [World.cell?, Addr.add] at h0; split at h0 <;> simp at h0
  subst hsp
  refine ⟨b, off, rfl, ?_, fun i hi => ?_⟩
  · have := World.block_lt_of_cell? W _ (h.2 0 hp _ rfl 0 _ rfl).1
    simpa [Addr.add] using this
  · have hr := h.2 i hi _ rfl
    have e : ks.length = 5 := rfl
    rw [e] at hr
    have g : ∀ j, (Addr.add ⟨b, off, none⟩ (i * 5 + j)) = ⟨b, off + i * 5 + j, none⟩ := fun j => by
      unfold Addr.add
      split
      · have : i * 5 + j = 0 := by assumption
        simp only [Addr.mk.injEq, true_and, and_true]
        omega
      · simp only [Addr.mk.injEq, true_and, and_true]
        omega
    refine ⟨?_, ?_, ?_, ?_, ?_⟩
    · rw [show (⟨b, off + i * 5, none⟩ : Addr) = ⟨b, off + i * 5 + 0, none⟩ from rfl, ← g 0]; exact (hr 0 _ rfl).1
    · rw [← g 1]; exact (hr 1 _ rfl).1
    · rw [← g 2]; exact (hr 2 _ rfl).1
    · rw [← g 3]; exact (hr 3 _ rfl).1
    · rw [← g 4]; exact (hr 4 _ rfl).1

set_option maxRecDepth 100000 in
set_option maxHeartbeats 1000000 in
theorem walk_no (W : World) (cpus : Int) (hn : cpus < 1 ∨ 64 < cpus) (x : Value) : Calls Try.prog 11 #[.int .i64 cpus, x] W fun e W' => e = .returned (.bool true) ∧ Below W.heap.size W W' := by
  go_enter Try.func11, Try.ntmps11
  go_wp2_with (first
    | (go_at_call 36; refine (new_no _ _ hn).mono ?_; rintro e w1 ⟨rfl, rfl⟩)
    | (go_at_call 37; refine (rnew_no _ _ hn).mono ?_; rintro e w1 ⟨rfl, rfl⟩)
    | (go_at_call 30; refine (known_ok _).mono ?_; rintro e w1 ⟨rfl, hb⟩))
  go_returns
  exact ⟨rfl, hb⟩

theorem keepch {F : Nat → Prop} {W w1 : World} (hc : Ch F W w1) {b o : Nat} {v : Value} (h : W.cell? ⟨b, o, none⟩ = some v) (hF : ¬ F b) : w1.cell? ⟨b, o, none⟩ = some v := (hc.cell (World.block_lt_of_cell? _ _ h) hF).trans h
theorem and_of {p q : Bool} (hp : p = true) (hq : q = true) : (p && q) = true := by simp [hp, hq]
theorem is_yes (w : World) (tb cb cap n : Nat) (i : Int) (hd : w.cell? ⟨tb, 0, none⟩ = some (.slice (some ⟨cb, 0, none⟩) n cap)) (hfew : n ≤ 64) (h0 : 0 ≤ i) (h1 : i < (n : Int)) :
    Calls Try.prog 49 #[.pointer (some ⟨tb, 0, none⟩), .int .i64 i] w fun e w' => e = .returned (.bool true) ∧ w = w' := by
  go_enter Try.func49, Try.ntmps49
  go_wp2
  go_returns
  exact ⟨rfl, rfl⟩
theorem keepcell {W w1 : World} (hb : Below W.heap.size W w1) {p : Addr} {v : Value} (h : W.cell? p = some v) : w1.cell? p = some v := (hb.cell (World.block_lt_of_cell? _ _ h)).trans h
theorem keepbelow {W0 W w1 : World} (h : Below W0.heap.size W0 W) (hb : Below W.heap.size W w1) : Below W0.heap.size W0 w1 := h.trans (hb.mono h.size)
theorem is_out_q (w : World) (tb cb cap n : Nat) (i : Int) (hd : w.cell? ⟨tb, 0, none⟩ = some (.slice (some ⟨cb, 0, none⟩) n cap)) (hfew : n ≤ 64) (hi : i < 0 ∨ (n : Int) ≤ i) :
    Calls Try.prog 49 #[.pointer (some ⟨tb, 0, none⟩), .int .i64 i] w fun e w' => e = .returned (.bool false) ∧ w' = w := (CoreE.is_out w tb cb cap n i hd hfew hi).mono fun _ _ h => ⟨h.1, h.2.symm⟩
end Go.Proofs.Ytpefmgmhclbcbaa.CorePlaysA
