/- Tables of cores in memory: how they read, and what turns when one core does. -/
import Derived.Test.YtpefmgmhclbcbaaProg
import Derived.Test.YtpefmgmhclbcbaaFrame
import Derived.WalkKit
import Derived.Handy
import Derived.WalkLawsBesides
import Derived.WalkSpells
import Derived.Below
import Derived.BigQuiet
import Derived.Deep.QuietTactic
import Derived.Lib.Hide
import Derived.Outline
namespace Go.Proofs.Ytpefmgmhclbcbaa.CoreC
open Go.RowKit Go.Proofs.Ytpefmgmhclbcbaa.Frame
set_option linter.unusedVariables false
set_option linter.unusedSimpArgs false

structure CoreS where
  power : Bool
  idle : Bool
  way : Int
  since : Int
  steps : Int
  busy : Int
def CoreS.val (c : CoreS) : Value := .agg #[.bool c.power, .bool c.idle, .int .i64 c.way, .int .i64 c.since, .int .i64 c.steps, .int .i64 c.busy]
def CoreS.none : CoreS := ⟨false, false, 0, 0, 0, 0⟩
/-- A core lies at a place. -/
structure At (w : World) (b o : Nat) (c : CoreS) : Prop where
  c0 : w.cell? ⟨b, o, Option.none⟩ = some (.bool c.power)
  c1 : w.cell? ⟨b, o + 1, Option.none⟩ = some (.bool c.idle)
  c2 : w.cell? ⟨b, o + 2, Option.none⟩ = some (.int .i64 c.way)
  c3 : w.cell? ⟨b, o + 3, Option.none⟩ = some (.int .i64 c.since)
  c4 : w.cell? ⟨b, o + 4, Option.none⟩ = some (.int .i64 c.steps)
  c5 : w.cell? ⟨b, o + 5, Option.none⟩ = some (.int .i64 c.busy)
/-- A struct of one list of cores, whose array has room for cap. -/
structure Tab (w : World) (tb cb cap : Nat) (cs : List CoreS) : Prop where
  hd : w.cell? ⟨tb, 0, Option.none⟩ = some (.slice (some ⟨cb, 0, Option.none⟩) cs.length cap)
  rows : ∀ i c, cs[i]? = some c → At w cb (i * 6) c
  free : ∀ o, w.frozen? ⟨cb, o, Option.none⟩ = false
  ne : tb ≠ cb
  lt1 : tb < w.heap.size
  lt2 : cb < w.heap.size
  few : cs.length ≤ 64
theorem Tab.ch {F : Nat → Prop} {w w' : World} {tb cb cap : Nat} {cs : List CoreS} (h : Tab w tb cb cap cs) (hc : Ch F w w') (h1 : ¬ F tb) (h2 : ¬ F cb) : Tab w' tb cb cap cs :=
  ⟨(hc.cell h.lt1 h1).trans h.hd, fun i c hi => ⟨(hc.cell h.lt2 h2).trans (h.rows i c hi).c0, (hc.cell h.lt2 h2).trans (h.rows i c hi).c1, (hc.cell h.lt2 h2).trans (h.rows i c hi).c2, (hc.cell h.lt2 h2).trans (h.rows i c hi).c3, (hc.cell h.lt2 h2).trans (h.rows i c hi).c4, (hc.cell h.lt2 h2).trans (h.rows i c hi).c5⟩,
    fun o => (hc.frozen h.lt2 h2).trans (h.free o), h.ne, Nat.lt_of_lt_of_le h.lt1 hc.size, Nat.lt_of_lt_of_le h.lt2 hc.size, h.few⟩
/-- A world in which core i alone may have turned, and is c' now. -/
theorem Tab.set {w w' : World} {tb cb cap : Nat} {cs : List CoreS} (h : Tab w tb cb cap cs) {i : Nat} (hi : i < cs.length) (c' : CoreS) (hd : w'.cell? ⟨tb, 0, Option.none⟩ = w.cell? ⟨tb, 0, Option.none⟩) (hz : w.heap.size ≤ w'.heap.size)
    (hc : At w' cb (i * 6) c') (ho : ∀ o, (o < i * 6 ∨ i * 6 + 6 ≤ o) → w'.cell? ⟨cb, o, Option.none⟩ = w.cell? ⟨cb, o, Option.none⟩) (hf : ∀ o, w'.frozen? ⟨cb, o, Option.none⟩ = false) : Tab w' tb cb cap (cs.set i c') := by
  refine ⟨by rw [hd, List.length_set]; exact h.hd, fun j c hj => ?_, hf, h.ne, Nat.lt_of_lt_of_le h.lt1 hz, Nat.lt_of_lt_of_le h.lt2 hz, by rw [List.length_set]; exact h.few⟩
  by_cases e : i = j
  · subst e
    rw [List.getElem?_set_self hi] at hj
    obtain rfl := Option.some.inj hj
    exact hc
  · rw [List.getElem?_set_ne e] at hj
    obtain ⟨a0, a1, a2, a3, a4, a5⟩ := h.rows j c hj
    exact ⟨(ho _ (by omega)).trans a0, (ho _ (by omega)).trans a1, (ho _ (by omega)).trans a2, (ho _ (by omega)).trans a3, (ho _ (by omega)).trans a4, (ho _ (by omega)).trans a5⟩
def powerF (on : Bool) (c : CoreS) : CoreS × Int := if c.power == on then (c, 6) else ({ c with power := on, idle := false, way := 0, since := 0 }, 0)
def badRest (way now : Int) : Bool := decide (way < 0 ∨ 8 ≤ way ∨ now < 0 ∨ 1152921504606846976 < now)
def restF (way now : Int) (c : CoreS) : CoreS × Int :=
  if badRest way now then (c, 2) else if !c.power || c.idle then (c, 6) else ({ c with idle := true, way := way, since := now }, 0)
def badNow (now : Int) : Bool := decide (now < 0 ∨ 1152921504606846976 < now)
def later (now since : Int) : Int := if 0 < now - since then now - since else 0
def wakeF (now : Int) (c : CoreS) : CoreS × Int × Int :=
  if badNow now then (c, 0, 2) else if !c.idle then (c, 0, 6) else ({ c with idle := false, way := 0, since := 0 }, later now c.since, 0)
def countF (b : Bool) (c : CoreS) : CoreS × Int := ({ c with steps := wrap64 (c.steps + 1), busy := if b then wrap64 (c.busy + 1) else c.busy }, 0)
def takeF (c : CoreS) : CoreS × Int × Int × Int := ({ c with steps := 0, busy := 0 }, c.busy, c.steps, 0)
/-- What is done to the core of a number; beyond them all: 'out'. -/
def onCore {β : Type} (cs : List CoreS) (i : Int) (out : β) (f : CoreS → CoreS × β) : List CoreS × β :=
  if 0 ≤ i then match cs[i.toNat]? with
    | some c => (cs.set i.toNat (f c).1, (f c).2)
    | Option.none => (cs, out)
  else (cs, out)
theorem onCore_in {β : Type} {cs : List CoreS} {n : Nat} {c : CoreS} (h : cs[n]? = some c) (out : β) (f : CoreS → CoreS × β) : onCore cs (n : Int) out f = (cs.set n (f c).1, (f c).2) := by
  unfold onCore
  rw [if_pos (by omega), Int.toNat_natCast, h]
theorem onCore_out {β : Type} {cs : List CoreS} {i : Int} (h : i < 0 ∨ cs.length ≤ i) (out : β) (f : CoreS → CoreS × β) : onCore cs i out f = (cs, out) := by
  unfold onCore
  by_cases h0 : 0 ≤ i
  · rw [if_pos h0, List.getElem?_eq_none (by omega)]
  · rw [if_neg h0]
theorem split (cs : List CoreS) (i : Int) : (∃ n c, i = ((n : Nat) : Int) ∧ cs[n]? = some c) ∨ (i < 0 ∨ (cs.length : Int) ≤ i) := by
  by_cases h : 0 ≤ i ∧ i < cs.length
  · obtain ⟨n, rfl⟩ := Int.eq_ofNat_of_zero_le h.1
    exact .inl ⟨n, _, rfl, List.getElem?_eq_getElem (by omega)⟩
  · exact .inr (by omega)
end Go.Proofs.Ytpefmgmhclbcbaa.CoreC
