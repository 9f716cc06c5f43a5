/- Part 7 of the proof: contracts and plain laws, each under the conditions that it names. -/
import Derived.Test.YtiocbpabbjgkhaaGreatDoorPart06
import Derived.RangeFuncNested
import Derived.RangeFuncBound
import Derived.RangeFuncCalls
import Derived.RangeFuncLeaves
import Derived.Shelf.Abstract
import Derived.Shelf.RegionOpen
import Derived.OwnWalkIn
import Derived.TacticsInMore
import Derived.LoopNIn
import Derived.LoopIn
set_option maxRecDepth 100000
set_option maxHeartbeats 20000000
set_option linter.unusedVariables false
set_option linter.unusedSimpArgs false
namespace Go.Proofs.YtiocbpabbjgkhaaGreatDoor
open Go.RowKit Tryz
variable {w w' : World} {F : Nat → Prop} {p : Nat}
def coreF (n : Int) : Bool := decide (0 ≤ n) && decide (n < 64)
theorem core_any (n : Int) (w : World) : Calls prog 242 #[.int .i64 n] w fun e w' => e = .returned (.bool (coreF n)) ∧ w = w' := by
 unfold coreF
 by_cases h0 : 0 ≤ n
 ·by_cases h1 : n < 64
  ·have e1 : decide (n < 64) = true := by simpa using h1
   rw [decide_eq_true h0, e1]
   go_enter func242, ntmps242
   go_wp2;go_returns
   exact ⟨rfl, rfl⟩
  ·have e1 : decide (n < 64) = false := by simpa using h1
   rw [decide_eq_true h0, e1]
   go_enter func242, ntmps242
   go_wp2;go_returns
   exact ⟨rfl, rfl⟩
 ·have e0 : decide (0 ≤ n) = false := by simpa using h0
  rw [e0]
  go_enter func242, ntmps242
  go_wp2;go_returns
  exact ⟨rfl, rfl⟩
def upStages (up : Bool) : Int := if up then 4 else 10
def deskBegin (d : Desk) (up : Bool) (cpu who : Int) : Desk × Int :=
 match d.req with
 | .some _ => (d, 7)
 | .none => if coreF cpu && coreF who then (if cpu = who then (d, 2) else (⟨.some ⟨⟨upStages up, 0, false⟩, up, cpu, who, false⟩, d.planned⟩, 0)) else (d, 3)
open Classical in
theorem DeskAtQ.fresh {p rp sp : Nat} {rv mv : Value} {c : Nat → Nat} {d : Desk} (h : DeskAtQ w F p rv mv c d) {r : Req} (hh : Blk w' p #[.pointer (.some ⟨rp, 0, .none⟩), mv] 146) (hr : Blk w' rp (reqCells sp r) 190) (hs : RunAt w' (fun b => w.heap.size ≤ b ∧ b < w'.heap.size ∧ b ≠ rp) sp r.run) (hrp : w.heap.size ≤ rp) (hc : Ch (Col F c 0) w w') : DeskAt w' (Plus w w' F) p ⟨.some r, d.planned⟩ := by
 refine ⟨_, _, fun b => if b < w.heap.size then (if c b = 1 ∨ c b = 2 then 9 else c b) else if b = rp then 1 else 2, hh, ⟨.inl h.fp.1, ?_⟩, ⟨rp, sp, rfl, hr, ⟨.inr ⟨hrp, hr.lt⟩, ?_⟩, hs.mono ?_⟩, ?_, ?_⟩
 ·have := h.lt _ h.fp.1
  simp [this, h.fp.2]
 ·simp [Nat.not_lt.2 hrp]
 ·rintro b ⟨h1, h2, h3⟩
  exact ⟨.inr ⟨h1, h2⟩, by simp [Nat.not_lt.2 h1, h3]⟩
 ·have hp : PlanAt w' F c mv d.planned := h.plan.ch hc (Col.apart (by omega))
  cases hd : d.planned with
  | none => rw [hd] at hp; exact hp
  | some m =>
   rw [hd] at hp;obtain ⟨mb, e1, e2, e3⟩ := hp
   exact ⟨mb, e1, e2, .inl e3.1, by have := h.lt _ e3.1; simp [this, e3.2]⟩
 ·exact Plus.lt h.lt hc.size
theorem dbegin_any (w : World) {d : Desk} (h : DeskAt w F p d) (up : Bool) (cpu who : Int) : Calls prog 165 #[.pointer (some ⟨p, 0, none⟩), .bool up, .int .i64 cpu, .int .i64 who] w fun e w' => e = .returned (.int .i64 (deskBegin d up cpu who).2) ∧ DeskAt w' (Plus w w' F) p (deskBegin d up cpu who).1 ∧ Ch F w w' := by
 have HT := Hd h;obtain ⟨rv, mv, c, h⟩ := h;unfold deskBegin
 cases hd : d.req with
 | some r =>
  obtain ⟨rp, sp, -, c0, -, -, -⟩ := h.some hd
  clear h hd
  go_enter func165, ntmps165
  go_wp2;go_returns
  exact ⟨rfl, by rw [Plus.self]; exact HT.out, Ch.refl _ _⟩
 | none =>
  have c0 := h.none hd
  have f0 : w.frozen? ⟨p, 0, none⟩ = false := h.head.frozen 0
  have A := Hd (core_any cpu w);have B := Hd (core_any who w);have H := Hd h;clear h hd;dsimp only;generalize coreF cpu = a at *;generalize coreF who = b at *
  cases a with
  | false =>
   go_enter func165, ntmps165
   go_wp2_with fail;refine A.out.mono ?_;rintro e w1 ⟨rfl, rfl⟩;go_wp2;go_returns
   exact ⟨rfl, by rw [Plus.self]; exact HT.out, Ch.refl _ _⟩
  | true =>
   cases b with
   | false =>
    go_enter func165, ntmps165
    go_wp2_with fail;refine A.out.mono ?_;rintro e w1 ⟨rfl, rfl⟩;go_wp2_with fail;refine B.out.mono ?_;rintro e w1 ⟨rfl, rfl⟩;go_wp2;go_returns
    exact ⟨rfl, by rw [Plus.self]; exact HT.out, Ch.refl _ _⟩
   | true =>
    by_cases hq : cpu = who
    ·subst hq
     go_enter func165, ntmps165
     go_wp2_with fail;refine A.out.mono ?_;rintro e w1 ⟨rfl, rfl⟩;go_wp2_with fail;refine B.out.mono ?_;rintro e w1 ⟨rfl, rfl⟩;go_wp2;go_returns
     simp only [Bool.and_self, if_true]
     exact ⟨rfl, by rw [Plus.self]; exact HT.out, Ch.refl _ _⟩
    ·have hq' : (cpu == who) = false := by simpa using hq
     have D := Hd (run_new w (upStages up) (by unfold upStages; split <;> omega) (by unfold upStages; split <;> omega))
     simp only [Bool.and_self, if_true, if_neg hq]
     clear hq
     unfold upStages at D ⊢
     cases up
     ·simp only [if_true, if_false, Bool.false_eq_true] at D ⊢
      go_enter func165, ntmps165
      go_wp2_with fail;refine A.out.mono ?_;rintro e w1 ⟨rfl, rfl⟩;go_wp2_with fail;refine B.out.mono ?_;rintro e w1 ⟨rfl, rfl⟩;go_wp2_with fail;refine D.out.mono ?_;rintro e w1 ⟨⟨sp, rfl, hs⟩, hb⟩;have HS := Hd hs;have HB := Hd hb
      have hB := H.out.head.ch (Ch.off hb) (fun h => h)
      have c0' : ∀ o, (w1.alloc o).cell? ⟨p, 0, none⟩ = some (.pointer none) := fun o => by have := keepcell hb c0; rwa [(hB.alloc o).cell, ← hB.cell]
      have f0' : ∀ o, (w1.alloc o).frozen? ⟨p, 0, none⟩ = false := fun o => (hB.alloc o).frozen 0
      replace hB := Hd hB;clear hs hb c0 f0;go_wp2;go_returns
      refine ⟨rfl, ?_, ((Ch.of_below HB.out).alloc _).setCell (p := ⟨p, 0, none⟩) (fun _ => H.out.fp.1) _⟩
      have hlt := HB.out.size
      refine H.out.fresh (rp := w1.heap.size) (sp := sp) ((hB.out.alloc _).set 0 _) ((Blk.new _ _ _).far (fun e => by have := hB.out.lt; simp at e; omega) _) ?_ hlt (((Ch.of_below HB.out).alloc _).setCell (p := ⟨p, 0, none⟩) (fun _ => H.out.fp) _)
      have h2 := (HS.out.ch ((Ch.refl (fun _ => False) w1).alloc (.cells #[Value.pointer (some { block := sp, off := 0 }), Value.bool false, Value.int IntKind.i64 cpu, Value.int IntKind.i64 who, Value.bool false] 190)) (fun _ _ h => h)).ch ((Ch.refl (fun b => b = p) _).put 0 (.pointer (some ⟨w1.heap.size, 0, none⟩))) (fun b hb e => by subst e; have := H.out.head.lt; rcases hb with hb | hb; exact hb; omega)
      refine h2.mono ?_;rintro b (hb | ⟨hb1, hb2⟩)
      ·exact hb.elim
      ·exact ⟨hb1, by simp; omega, by omega⟩
     ·simp only [if_true, if_false, Bool.false_eq_true] at D ⊢
      go_enter func165, ntmps165
      go_wp2_with fail;refine A.out.mono ?_;rintro e w1 ⟨rfl, rfl⟩;go_wp2_with fail;refine B.out.mono ?_;rintro e w1 ⟨rfl, rfl⟩;go_wp2_with fail;refine D.out.mono ?_;rintro e w1 ⟨⟨sp, rfl, hs⟩, hb⟩;have HS := Hd hs;have HB := Hd hb
      have hB := H.out.head.ch (Ch.off hb) (fun h => h)
      have c0' : ∀ o, (w1.alloc o).cell? ⟨p, 0, none⟩ = some (.pointer none) := fun o => by have := keepcell hb c0; rwa [(hB.alloc o).cell, ← hB.cell]
      have f0' : ∀ o, (w1.alloc o).frozen? ⟨p, 0, none⟩ = false := fun o => (hB.alloc o).frozen 0
      replace hB := Hd hB;clear hs hb c0 f0;go_wp2;go_returns
      refine ⟨rfl, ?_, ((Ch.of_below HB.out).alloc _).setCell (p := ⟨p, 0, none⟩) (fun _ => H.out.fp.1) _⟩
      have hlt := HB.out.size
      refine H.out.fresh (rp := w1.heap.size) (sp := sp) ((hB.out.alloc _).set 0 _) ((Blk.new _ _ _).far (fun e => by have := hB.out.lt; simp at e; omega) _) ?_ hlt (((Ch.of_below HB.out).alloc _).setCell (p := ⟨p, 0, none⟩) (fun _ => H.out.fp) _)
      have h2 := (HS.out.ch ((Ch.refl (fun _ => False) w1).alloc (.cells #[Value.pointer (some { block := sp, off := 0 }), Value.bool true, Value.int IntKind.i64 cpu, Value.int IntKind.i64 who, Value.bool false] 190)) (fun _ _ h => h)).ch ((Ch.refl (fun b => b = p) _).put 0 (.pointer (some ⟨w1.heap.size, 0, none⟩))) (fun b hb e => by subst e; have := H.out.head.lt; rcases hb with hb | hb; exact hb; omega)
      refine h2.mono ?_;rintro b (hb | ⟨hb1, hb2⟩)
      ·exact hb.elim
      ·exact ⟨hb1, by simp; omega, by omega⟩
theorem DeskAtQ.turn {p rp sp : Nat} {mv : Value} {c : Nat → Nat} {d : Desk} (h : DeskAtQ w F p (.pointer (.some ⟨rp, 0, .none⟩)) mv c d) {r : Req} (hrp : Col F c 1 rp) (hr : Blk w' rp (reqCells sp r) 190) (hs : RunAt w' (Col F c 2) sp r.run) {m : Option (List (Int × Bool))} (hp : PlanAt w' F c mv m) (hc : Ch (fun b => F b ∧ c b ≠ 0) w w') : DeskAt w' F p ⟨.some r, m⟩ :=
 ⟨_, mv, c, h.head.ch hc (fun e => e.2 h.fp.2), h.fp, ⟨rp, sp, rfl, hr, hrp, hs⟩, hp, fun b hb => Nat.lt_of_lt_of_le (h.lt b hb) hc.size⟩
def deskDone (d : Desk) : Desk × Int :=
 match d.req with
 | .none => (d, 12)
 | .some r => if runOver r.run then (d, 6) else (⟨.some ⟨(runDone r.run).1, r.up, r.cpu, r.who, false⟩, d.planned⟩, (runDone r.run).2)
theorem ddone_any (w : World) {d : Desk} (h : DeskAt w F p d) : Calls prog 193 #[.pointer (some ⟨p, 0, none⟩)] w fun e w' => e = .returned (.int .i64 (deskDone d).2) ∧ DeskAt w' F p (deskDone d).1 ∧ Ch F w w' ∧ w'.heap.size = w.heap.size := by
 have HT := Hd h;have A := Hd (dmay_any w h);obtain ⟨rv, mv, c, h⟩ := h;unfold deskDone;unfold deskMay at A
 cases hd : d.req with
 | none =>
  rw [hd] at A;clear h hd
  go_enter func193, ntmps193
  go_wp2_with fail;refine A.out.mono ?_;rintro e w1 ⟨rfl, n, rfl⟩;go_wp2;go_returns
  exact ⟨rfl, HT.out.below (belowN _ _), (Ch.refl _ _).drewN _, rfl⟩
 | some r =>
  obtain ⟨rp, sp, rfl, c0, hb, hrp, hr⟩ := h.some hd
  have hpl := Hd h.plan;rw [hd] at A;dsimp only at A ⊢;generalize ho : runOver r.run = o at *
  cases o with
  | true =>
   clear h hd ho hb hr
   go_enter func193, ntmps193
   go_wp2_with fail;refine A.out.mono ?_;rintro e w1 ⟨rfl, n, rfl⟩;go_wp2;go_returns
   exact ⟨rfl, HT.out.below (belowN _ _), (Ch.refl _ _).drewN _, rfl⟩
  | false =>
   have k0 : w.cell? ⟨rp, 0, none⟩ = some (.pointer (some ⟨sp, 0, none⟩)) := hb.cell 0
   have k4 : w.cell? ⟨rp, 4, none⟩ = some (.bool r.told) := hb.cell 4
   have f4 : w.frozen? ⟨rp, 4, none⟩ = false := hb.frozen 4
   have hne : p ≠ rp := fun e => by subst e; have := h.fp.2.symm.trans hrp.2; omega
   have hB := Hd (hb.set 4 (.bool false))
   have D := fun n => Hd (rdone_any ((w.drewN n).setCell ⟨rp, 4, none⟩ (.bool false)) (hr.ch (((Ch.refl (fun k => k = rp) w).drewN n).put 4 (.bool false)) (fun b hb' e => by subst e; have := hb'.2.symm.trans hrp.2; omega)))
   have H := Hd h;have HC := Hd c0;clear h hd ho hb hr
   go_enter func193, ntmps193
   go_wp2_with fail;refine A.out.mono ?_;rintro e w1 ⟨rfl, n, rfl⟩
   replace D := D n
   go_wp2_with fail;refine D.out.mono ?_;rintro e w2 ⟨rfl, h1, h2, h3⟩;replace h1 := Hd h1;replace h2 := Hd h2;replace h3 := Hd h3;go_wp2;go_returns
   have hc : Ch (fun b => F b ∧ c b ≠ 0) w w2 := (((Ch.refl _ w).drewN n).setCell (p := ⟨rp, 4, none⟩) (fun _ => ⟨hrp.1, by have := hrp.2; simp only; omega⟩) (.bool false)).then h2.out (fun b _ hb => ⟨hb.1, by have := hb.2; omega⟩)
   refine ⟨rfl, ?_, hc.mono (fun _ _ h => h.1), by rw [h3.out]; simp⟩
   refine H.out.turn (sp := sp) hrp ?_ h1.out ?_ hc
   ·have hq : Blk ((w.drewN n).setCell ⟨rp, 4, none⟩ (.bool false)) rp (reqCells sp ⟨(runDone r.run).1, r.up, r.cpu, r.who, false⟩) 190 := hB.out
    exact hq.ch h2.out (fun e => by have := e.2.symm.trans hrp.2; omega)
   ·exact hpl.out.ch (((Ch.refl (fun b => F b ∧ c b ≠ 3) w).drewN n).setCell (p := ⟨rp, 4, none⟩) (fun _ => ⟨hrp.1, by have := hrp.2; simp only; omega⟩) (.bool false) |>.then h2.out (fun b _ hb => ⟨hb.1, by have := hb.2; omega⟩)) (fun b hb e => e.2 hb.2)
def deskEnd (d : Desk) : Desk × Int × Int :=
 match d.req with
 | .none => (d, 0, 12)
 | .some r => if runOver r.run then (⟨.none, d.planned⟩, runWhy r.run, 0) else (d, 0, 6)
theorem dend_any (w : World) {F : Nat → Prop} {p : Nat} {d : Desk} (h : DeskAt w F p d) : Calls prog 195 #[.pointer (some ⟨p, 0, none⟩)] w fun e w' => e = .returned (.tuple #[.int .i64 (deskEnd d).2.1, .int .i64 (deskEnd d).2.2]) ∧ DeskAt w' F p (deskEnd d).1 ∧ Ch F w w' ∧ w'.heap.size = w.heap.size := by
  have HT := Hd h
  have A := Hd (dover_any w h)
  obtain ⟨rv, mv, c, h⟩ := h
  unfold deskEnd
  unfold deskOver at A
  cases hd : d.req with
  | none =>
    have c0 := h.none hd
    clear h hd A
    go_enter func195, ntmps195
    go_wp2
    go_returns
    exact ⟨rfl, HT.out, Ch.refl _ _, rfl⟩
  | some r =>
    obtain ⟨rp, sp, rfl, c0, hb, hrp, hr⟩ := h.some hd
    rw [hd] at A
    dsimp only at A ⊢
    have B := fun n => Hd (rwhy_any (w.drewN n) (hr.below (belowN w n)))
    generalize runOver r.run = o at *
    cases o with
    | false =>
      clear h hd B hb hr
      go_enter func195, ntmps195
      go_wp2_with fail
      refine A.out.mono ?_
      rintro e w1 ⟨rfl, n, rfl⟩
      go_wp2
      go_returns
      exact ⟨rfl, HT.out.below (belowN _ _), (Ch.refl _ _).drewN _, rfl⟩
    | true =>
      have k0 : w.cell? ⟨rp, 0, none⟩ = some (.pointer (some ⟨sp, 0, none⟩)) := hb.cell 0
      have f0 : w.frozen? ⟨p, 0, none⟩ = false := h.head.frozen 0
      have H := Hd h
      clear h hd hb hr
      go_enter func195, ntmps195
      go_wp2_with fail
      refine A.out.mono ?_
      rintro e w1 ⟨rfl, n, rfl⟩
      replace B := B n
      go_wp2_with fail
      refine B.out.mono ?_
      rintro e w2 ⟨rfl, m, rfl⟩
      go_wp2
      go_returns
      refine ⟨rfl, ⟨_, mv, c, (H.out.head.drewN (n + m)).set 0 _, H.out.fp, rfl, ?_, ?_⟩, ((Ch.refl _ w).drewN (n + m)).setCell (p := ⟨p, 0, none⟩) (fun _ => H.out.fp.1) _, by simp⟩
      · exact H.out.plan.ch (((Ch.refl (fun b => b = p) w).drewN (n + m)).put 0 _) (fun b hb e => by have e : b = p := e
                                                                                                     have := hb.2.symm.trans (e ▸ H.out.fp.2); omega)
      · exact fun b hb => by have := H.out.lt b hb; simpa using this
def planF (m : Option (List (Int × Bool))) (n : Int) : List (Int × Bool) := mput (m.getD []) n true
def deskPlan (d : Desk) (n : Int) : Desk × Int := if n < 0 ∨ 10 ≤ n then (d, 3) else (⟨d.req, some (planF d.planned n)⟩, 0)
theorem encB_put (m : List (Int × Bool)) (k : Int) (v : Bool) : mput (encB m) k (.bool v) = encB (mput m k v) := by
 induction m with
 | nil => rfl
 | cons x t ih =>
  simp only [encB, List.map_cons, mput] at *
  split
  ·rfl
  ·rw [ih]; rfl
theorem encB_get (m : List (Int × Bool)) (k : Int) : mget (encB m) k = (mget m k).map Value.bool := by
 induction m with
 | nil => rfl
 | cons x t ih =>
  simp only [encB, List.map_cons, mget] at *
  split
  ·rfl
  ·exact ih
theorem encB_del (m : List (Int × Bool)) (k : Int) : mdel (encB m) k = encB (mdel m k) := by
 induction m with
 | nil => rfl
 | cons x t ih =>
  simp only [encB, List.map_cons, mdel] at *
  split
  ·rfl
  ·rw [ih]; rfl
theorem dplan_any (w : World) {d : Desk} (h : DeskAt w F p d) (n : Int) : Calls prog 244 #[.pointer (some ⟨p, 0, none⟩), .int .i64 n] w fun e w' => e = .returned (.int .i64 (deskPlan d n).2) ∧ DeskAt w' (Plus w w' F) p (deskPlan d n).1 ∧ Ch F w w' := by
 have HT := Hd h;obtain ⟨rv, mv, c, h⟩ := h;unfold deskPlan
 rcases (by omega : n < 0 ∨ (0 ≤ n ∧ 10 ≤ n) ∨ (0 ≤ n ∧ n < 10)) with h0 | ⟨h0, h1⟩ | ⟨h0, h1⟩
 ·rw [if_pos (.inl h0)]
  clear h
  go_enter func244, ntmps244
  go_wp2;go_returns
  exact ⟨rfl, by rw [Plus.self]; exact HT.out, Ch.refl _ _⟩
 ·rw [if_pos (.inr h1)]
  clear h
  go_enter func244, ntmps244
  go_wp2;go_returns
  exact ⟨rfl, by rw [Plus.self]; exact HT.out, Ch.refl _ _⟩
 ·rw [if_neg (by omega)]
  have hp := h.plan
  have c1 : w.cell? ⟨p, 1, none⟩ = some mv := h.head.cell 1
  have f1 : w.frozen? ⟨p, 1, none⟩ = false := h.head.frozen 1
  have qT : ∀ (w : World) (r : Option Nat), (binOp .eql 144 (.map r) (.map none)).run prog w = .ok (.bool r.isNone) w := fun w r => run_eql_map_nil w _ _ _ r underlying144
  have hmm := @run_makeMap prog
  have H := Hd h;clear h
  cases hd : d.planned with
  | none =>
   rw [hd] at hp
   have hp' : mv = .map none := hp
   subst hp'
   have hput := run_put (P := prog) (w := (w.alloc (.map #[] 0)).setCell ⟨p, 1, none⟩ (.map (some w.heap.size))) ((MapAt.new w).ch ((Ch.refl (fun b => b = p) _).put 1 (.map (some w.heap.size))) (fun e => by have := H.out.head.lt; omega)) underlying144 underlying3 n (.bool true)
   have c1' : ∀ o, (w.alloc o).cell? ⟨p, 1, none⟩ = some (.map none) := fun o => by rw [(H.out.head.alloc o).cell]; rfl
   have f1' : ∀ o, (w.alloc o).frozen? ⟨p, 1, none⟩ = false := fun o => (H.out.head.alloc o).frozen 1
   clear hp
   go_enter func244, ntmps244
   go_wp2;go_returns;have hlt := H.out.head.lt
   have HC : Ch (fun b => b = p) w (mapPut ((w.alloc (.map #[] 0)).setCell ⟨p, 1, none⟩ (.map (some w.heap.size))) w.heap.size n (.bool true)) := (((Ch.refl _ w).alloc _).put 1 _).mapPut (fun e => by omega) n _
   refine ⟨rfl, ⟨rv, _, recol w c 3, ?_, ?_, ?_, ⟨w.heap.size, rfl, ?_, .inr ⟨Nat.le_refl _, by simp⟩, recol_new (Nat.le_refl _)⟩, ?_⟩, HC.mono (fun b _ e => by have e : b = p := e; exact e ▸ H.out.fp.1)⟩
   ·exact Blk.ch (((H.out.head.alloc _).set 1 _)) (mapPut_ch _ _ _ _) (fun e => by have e : p = w.heap.size := e; omega)
   ·exact ⟨.inl H.out.fp.1, (recol_old hlt).trans H.out.fp.2⟩
   ·exact (H.out.req.ch HC (fun b hb e => by have e : b = p := e; have := hb.2.symm.trans (e ▸ H.out.fp.2); omega) (fun b hb e => by have e : b = p := e; have := hb.2.symm.trans (e ▸ H.out.fp.2); omega)).mono (fun i => Col.old H.out.lt)
   ·have h2 := ((MapAt.new w).ch ((Ch.refl (fun b => b = p) _).put 1 (.map (some w.heap.size))) (fun e => by have e : w.heap.size = p := e; omega)).put n (.bool true)
    exact h2
   ·exact Plus.lt H.out.lt HC.size
  | some m =>
   rw [hd] at hp;obtain ⟨mb, rfl, hm, hmb⟩ := hp
   have hput := run_put (P := prog) hm underlying144 underlying3 n (.bool true)
   have hM := Hd (hm.put n (.bool true))
   clear hm
   go_enter func244, ntmps244
   go_wp2;go_returns
   have HC : Ch (Col F c 3) w (mapPut w mb n (.bool true)) := (Ch.refl _ w).mapPut (fun _ => hmb) n _
   rw [Plus.eq (by simp)]
   refine ⟨rfl, ⟨rv, _, c, H.out.head.ch HC (Col.apart (by omega) _ H.out.fp), H.out.fp, H.out.req.ch HC (Col.apart (by omega)) (Col.apart (by omega)), ⟨mb, rfl, ?_, hmb⟩, fun b hb => by have := H.out.lt b hb; simpa using this⟩, Col.ch HC⟩
   have h2 := hM.out;rw [encB_put] at h2
   exact h2
section
section
open Go.MapKept
variable {P : Program} {w : World} {T K E : TypeId}
theorem run_look_nil (hT : P.underlying T = some (.map K E)) (hK : P.underlying K = some (.int .i64)) (z : Value) (hz : (zeroValue E).run P w = .ok z w) (k : Int) (ok : Bool) :
  (Instr.lookup T (.map none) (.int .i64 k) ok).run P w = .ok (if ok then .tuple #[z, .bool false] else z) w := by
 have hf : Instr.findNow (.int .i64) (.int .i64 k) [] 0 = some none := rfl
 have hfk := run_findKey (P := P) (w := w) hK hf
 have hck := run_checkKey (P := P) (w := w) (k := .int .i64 k) hK rfl true 9999
 cases ok <;> simp [Instr.lookup, run_underlying hT, Result.andThen, hck, hfk, hz]
end
theorem DeskAt.both {d : Desk} (h : DeskAt w F p d) (hc : Ch (fun _ => False) w w') : DeskAt w' F p d ∧ Ch F w w' := ⟨h.ch hc (fun _ _ h => h), hc.mono (fun _ _ h => h.elim)⟩
structure Step where
 stage : Int
 undo : Bool
 fails : Bool
def deskFails (d : Desk) : Bool :=
 match d.req with
 | .none => false
 | .some r => !r.run.back && !r.told && ((d.planned.getD []) |> fun m => (mget m (runAt r.run)).getD false)
def deskNext (d : Desk) : Desk × Step × Int :=
 match d.req with
 | .none => (d, ⟨0, false, false⟩, 12)
 | .some r => if runOver r.run then (d, ⟨0, false, false⟩, 6) else
  if deskFails d then (⟨.some ⟨(runFail r.run).1, r.up, r.cpu, r.who, true⟩, d.planned.map (fun m => mdel m (runAt r.run))⟩, ⟨runAt r.run, r.run.back, true⟩, 0)
  else (⟨.some ⟨r.run, r.up, r.cpu, r.who, true⟩, d.planned⟩, ⟨runAt r.run, r.run.back, false⟩, 0)
theorem DeskAtQ.told {p rp sp : Nat} {mv : Value} {c : Nat → Nat} {d : Desk} (h : DeskAtQ w F p (.pointer (.some ⟨rp, 0, .none⟩)) mv c d) {run : Run} {up told : Bool} {cpu who : Int} (hB : Blk w rp (reqCells sp ⟨run, up, cpu, who, told⟩) 190) (hR : RunAt w (Col F c 2) sp run) (hrp : Col F c 1 rp) (hpl : PlanAt w F c mv d.planned) (n : Nat) (o o2 : Obj) (a b e : Value) :
  DeskAt ((((((((w.alloc o).drewN n).alloc o2).setCell ⟨rp, 4, .none⟩ (.bool true)).setCell ⟨w.heap.size, 0, .none⟩ a).setCell ⟨w.heap.size, 1, .none⟩ b).setCell ⟨w.heap.size, 2, .none⟩ e)) F p ⟨.some ⟨run, up, cpu, who, true⟩, d.planned⟩ ∧ Ch F w (((((((w.alloc o).drewN n).alloc o2).setCell ⟨rp, 4, .none⟩ (.bool true)).setCell ⟨w.heap.size, 0, .none⟩ a).setCell ⟨w.heap.size, 1, .none⟩ b).setCell ⟨w.heap.size, 2, .none⟩ e) := by
 have hc : Ch (Col F c 1) w (((((((w.alloc o).drewN n).alloc o2).setCell ⟨rp, 4, .none⟩ (.bool true)).setCell ⟨w.heap.size, 0, .none⟩ a).setCell ⟨w.heap.size, 1, .none⟩ b).setCell ⟨w.heap.size, 2, .none⟩ e) :=
  ((((((((Ch.refl _ w).alloc o).drewN n).alloc o2).setCell (p := ⟨rp, 4, .none⟩) (fun _ => hrp) _).setCell (p := ⟨w.heap.size, 0, .none⟩) (fun h => absurd h (Nat.lt_irrefl _)) _).setCell (p := ⟨w.heap.size, 1, .none⟩) (fun h => absurd h (Nat.lt_irrefl _)) _).setCell (p := ⟨w.heap.size, 2, .none⟩) (fun h => absurd h (Nat.lt_irrefl _)) _)
 have hlt := hB.lt
 refine ⟨h.turn hrp ?_ (hR.ch hc (Col.apart (by omega))) (hpl.ch hc (Col.apart (by omega))) (hc.mono (fun b _ hb => ⟨hb.1, by have := hb.2; omega⟩)), Col.ch hc⟩
 have h1 : Blk ((((w.alloc o).drewN n).alloc o2).setCell ⟨rp, 4, .none⟩ (.bool true)) rp (reqCells sp ⟨run, up, cpu, who, true⟩) 190 := (((hB.alloc o).drewN n).alloc o2).set 4 _
 exact ((h1.far (fun e => by simp at e; omega) a).far (fun e => by simp at e; omega) b).far (fun e => by simp at e; omega) e
theorem dnext_any (w : World) {d : Desk} (h : DeskAt w F p d) : Calls prog 191 #[.pointer (some ⟨p, 0, none⟩)] w fun e w' => e = .returned (.tuple #[.agg #[.int .i64 (deskNext d).2.1.stage, .bool (deskNext d).2.1.undo, .bool (deskNext d).2.1.fails], .int .i64 (deskNext d).2.2]) ∧ DeskAt w' F p (deskNext d).1 ∧ Ch F w w' := by
 have HT0 := Hd h
 have HT := fun o => Hd (h.below ((Below.refl w.heap.size w).alloc (Nat.le_refl _) o))
 have A := fun o => Hd (dmay_any (w.alloc o) (HT o).out)
 obtain ⟨rv, mv, c, h⟩ := h;unfold deskNext;unfold deskMay at A
 cases hd : d.req with
 | none =>
  rw [hd] at A;clear h hd
  go_enter func191, ntmps191
  go_wp2_with fail;refine (A _).out.mono ?_;rintro e w1 ⟨rfl, n, rfl⟩;go_wp2
  refine bodyPost_ret (v := .tuple #[.agg #[.int .i64 0, .bool false, .bool false], .int .i64 12]) (by simp [results, results191, go_sem]) rfl ⟨rfl, ?_⟩
  refine HT0.out.both ?_
  exact (by (repeat (first | with_reducible exact Ch.refl _ _ | (with_reducible refine Ch.alloc ?_ _) | (with_reducible refine Ch.drew ?_) | (with_reducible refine Ch.drewN ?_ _) | (refine Ch.setCell ?_ (fun h => absurd h (by simp)) _))))
 | some r =>
  obtain ⟨rp, sp, rfl, c0, hb, hrp, hr⟩ := h.some hd
  rw [hd] at A;dsimp only at A ⊢;generalize ho : runOver r.run = o at *
  cases o with
  | true =>
   clear h hd hb hr
   go_enter func191, ntmps191
   go_wp2_with fail;refine (A _).out.mono ?_;rintro e w1 ⟨rfl, n, rfl⟩;go_wp2
   refine bodyPost_ret (v := .tuple #[.agg #[.int .i64 0, .bool false, .bool false], .int .i64 6]) (by simp [results, results191, go_sem]) rfl ⟨rfl, ?_⟩
   refine HT0.out.both ?_
   exact (by (repeat (first | with_reducible exact Ch.refl _ _ | (with_reducible refine Ch.alloc ?_ _) | (with_reducible refine Ch.drew ?_) | (with_reducible refine Ch.drewN ?_ _) | (refine Ch.setCell ?_ (fun h => absurd h (by simp)) _))))
  | false =>
   have B := fun o n => Hd (rat_any ((w.alloc o).drewN n) (hr.below (Ch.isBelow (((Ch.refl _ w).alloc o).drewN n))))
   obtain ⟨b, hbv⟩ : ∃ b, b = (mget (d.planned.getD []) (runAt r.run)).getD false := ⟨_, rfl⟩
   have hl : ∀ o n, (Instr.lookup 144 mv (.int .i64 (runAt r.run)) false).run prog ((w.alloc o).drewN n) = .ok (.bool b) ((w.alloc o).drewN n) := by
    intro o n
    rw [hbv]
    have hz : (zeroValue 4).run prog ((w.alloc o).drewN n) = .ok (.bool false) ((w.alloc o).drewN n) := by kernel_rfl
    have hp := h.plan
    cases hm : d.planned with
    | none =>
     rw [hm] at hp
     have hp' : mv = .map none := hp
     subst hp'
     have := run_look_nil (P := prog) (w := (w.alloc o).drewN n) underlying144 underlying3 _ hz (runAt r.run) false
     exact this
    | some m =>
     rw [hm] at hp;obtain ⟨mb, rfl, hmap, hmb⟩ := hp
     have := run_look (P := prog) (hmap.ch (((Ch.refl (fun _ => False) w).alloc o).drewN n) (fun h => h)) underlying144 underlying3 _ hz (runAt r.run) false
     rw [encB_get, if_neg (by decide)] at this;rw [this]
     simp only [Option.getD_some]
     cases mget m (runAt r.run) <;> rfl
   have hpl := Hd h.plan
   have k0 : ∀ o, (w.alloc o).cell? ⟨rp, 0, none⟩ = some (.pointer (some ⟨sp, 0, none⟩)) := fun o => by rw [(hb.alloc o).cell]; rfl
   have k4 : ∀ o, (w.alloc o).cell? ⟨rp, 4, none⟩ = some (.bool r.told) := fun o => by rw [(hb.alloc o).cell]; rfl
   have c0' : ∀ o, (w.alloc o).cell? ⟨p, 0, none⟩ = some (.pointer (some ⟨rp, 0, none⟩)) := fun o => by rw [(h.head.alloc o).cell]; rfl
   have c1' : ∀ o, (w.alloc o).cell? ⟨p, 1, none⟩ = some mv := fun o => by rw [(h.head.alloc o).cell]; rfl
   have hne : p ≠ rp := fun e => by subst e; have := h.fp.2.symm.trans hrp.2; omega
   have H := Hd h;have HD := Hd hd;have hB := Hd hb;have hR := Hd hr
   have hfl : deskFails d = (!r.run.back && !r.told && b) := by unfold deskFails; rw [hd, hbv]
   rw [hfl];replace hbv := Hd hbv;clear h hd hb hr c0 ho hfl;obtain ⟨run, up, cpu, who, told⟩ := r;obtain ⟨st, dn, back⟩ := run;dsimp only at *
   obtain ⟨i, hn⟩ : ∃ i, i = runAt ⟨st, dn, back⟩ := ⟨_, rfl⟩
   rw [← hn] at B hl hbv ⊢;replace hn := Hd hn
   have c0'' : ∀ o n o2, (((w.alloc o).drewN n).alloc o2).cell? ⟨p, 0, none⟩ = some (.pointer (some ⟨rp, 0, none⟩)) := fun o n o2 => by rw [(((H.out.head.alloc o).drewN n).alloc o2).cell]; rfl
   have c1'' : ∀ o n o2, (((w.alloc o).drewN n).alloc o2).cell? ⟨p, 1, none⟩ = some mv := fun o n o2 => by rw [(((H.out.head.alloc o).drewN n).alloc o2).cell]; rfl
   have k0'' : ∀ o n o2, (((w.alloc o).drewN n).alloc o2).cell? ⟨rp, 0, none⟩ = some (.pointer (some ⟨sp, 0, none⟩)) := fun o n o2 => by rw [(((hB.out.alloc o).drewN n).alloc o2).cell]; rfl
   have k4'' : ∀ o n o2, (((w.alloc o).drewN n).alloc o2).cell? ⟨rp, 4, none⟩ = some (.bool told) := fun o n o2 => by rw [(((hB.out.alloc o).drewN n).alloc o2).cell]; rfl
   have f4'' : ∀ o n o2, (((w.alloc o).drewN n).alloc o2).frozen? ⟨rp, 4, none⟩ = false := fun o n o2 => (((hB.out.alloc o).drewN n).alloc o2).frozen _
   cases hq : !back && !told && b with
   | false =>
    cases back
    all_goals cases told
    all_goals cases b
    all_goals first
     | (exfalso; revert hq; decide)
     | skip
    all_goals
     clear hq
     go_enter func191, ntmps191
     go_wp2_with fail;refine (A _).out.mono ?_;rintro e w1 ⟨rfl, n, rfl⟩;go_wp2_with fail;refine (B _ _).out.mono ?_;rintro e w1 ⟨rfl, m, rfl⟩;go_wp2
     refine bodyPost_ret (v := .tuple #[.agg #[.int .i64 i, .bool _, .bool false], .int .i64 0]) (by simp [results, results191, go_sem]) rfl ⟨rfl, ?_⟩
     exact H.out.told hB.out hR.out hrp hpl.out (n + m) _ _ _ _ _
   | true =>
    have hback : back = false := by revert hq; cases back <;> simp
    have htold : told = false := by revert hq; cases back <;> cases told <;> simp
    have hb : b = true := by revert hq; cases back <;> cases told <;> simp
    subst hback;subst htold;subst hb;clear hq
    obtain ⟨ml, hml, mb, rfl, hmap, hmb⟩ : ∃ ml, d.planned = some ml ∧ ∃ mb, mv = .map (some mb) ∧ MapAt w mb (encB ml) ∧ Col F c 3 mb := by
     have h1 := hbv.out;have h2 := hpl.out
     cases hm : d.planned with
     | none => rw [hm] at h1; simp [mget] at h1
     | some ml => rw [hm] at h2; exact ⟨ml, rfl, h2⟩
    have hdel : ∀ o n o2, (Builtin.delete_ #[144, 3] 0 #[.map (some mb), .int .i64 i]).run prog (((w.alloc o).drewN n).alloc o2) = .ok (.tuple #[]) (mapDel (((w.alloc o).drewN n).alloc o2) mb i) := fun o n o2 => run_del (hmap.ch ((((Ch.refl (fun _ => False) w).alloc o).drewN n).alloc o2) (fun h => h)) underlying144 underlying3 i 0 3
    have hne2 : ∀ b, Col F c 2 b → b ≠ mb := fun b hb e => by subst e; have := hb.2.symm.trans hmb.2; omega
    have E := fun o n o2 => Hd (rfail_any (mapDel (((w.alloc o).drewN n).alloc o2) mb i) (hR.out.ch (((((Ch.refl (fun b => b = mb) w).alloc o).drewN n).alloc o2).mapDel (fun _ => rfl) i) hne2))
    have hM := Hd hmap;clear hmap
    go_enter func191, ntmps191
    go_wp2_with fail;refine (A _).out.mono ?_;rintro e w1 ⟨rfl, n, rfl⟩;go_wp2_with fail;refine (B _ _).out.mono ?_;rintro e w1 ⟨rfl, m, rfl⟩;go_wp2_with fail;refine (E _ _ _).out.mono ?_;rintro e w3 ⟨rfl, h1, h2, h3⟩;have hlt1 := H.out.head.lt;have hlt2 := hB.out.lt;have hlt3 := hM.out.lt
    have hnew : ∀ b, w.heap.size ≤ b → ¬ (b = mb ∨ Col F c 2 b) := fun b hb e => e.elim (fun e => by omega) (fun e => by have := H.out.lt _ e.1; omega)
    have HW2 : Ch (fun b => b = mb ∨ Col F c 2 b) (((w.alloc (Obj.cells #[Value.int IntKind.i64 0, Value.bool false, Value.bool false] 297)).drewN (n + m)).alloc (Obj.cells #[Value.int IntKind.i64 i, Value.bool false, Value.bool true] 297)) w3 := ((Ch.refl _ _).mapDel (fun _ => .inl rfl) i).then h2 (fun _ _ h => .inr h)
    have HW : Ch (fun b => b = mb ∨ Col F c 2 b) w w3 := ((((Ch.refl _ w).alloc _).drewN _).alloc _).then HW2 (fun _ _ h => h)
    have b1 : Blk w3 w.heap.size #[Value.int IntKind.i64 0, Value.bool false, Value.bool false] 297 := (((Blk.new w _ _).drewN (n + m)).alloc (Obj.cells #[Value.int IntKind.i64 i, Value.bool false, Value.bool true] 297)).ch HW2 (hnew _ (Nat.le_refl _))
    have b2 : Blk w3 (w.heap.size + 1) #[Value.int IntKind.i64 i, Value.bool false, Value.bool true] 297 := (Blk.at (w := (w.alloc (Obj.cells #[Value.int IntKind.i64 0, Value.bool false, Value.bool false] 297)).drewN (n + m)) _ _ (by simp)).ch HW2 (hnew _ (Nat.le_succ _))
    have b3 : Blk w3 p #[.pointer (some ⟨rp, 0, none⟩), .map (some mb)] 146 := H.out.head.ch HW (fun e => e.elim (fun e => by have := (e ▸ hmb.2).symm.trans H.out.fp.2; omega) (fun e => by have := e.2.symm.trans H.out.fp.2; omega))
    have b4 : Blk w3 rp (reqCells sp ⟨⟨st, dn, false⟩, up, cpu, who, false⟩) 190 := hB.out.ch HW (fun e => e.elim (fun e => by have := (e ▸ hmb.2).symm.trans hrp.2; omega) (fun e => by have := e.2.symm.trans hrp.2; omega))
    have k10 : w3.cell? ⟨w.heap.size, 0, none⟩ = some (.int .i64 0) := b1.cell 0
    have k11 : w3.cell? ⟨w.heap.size, 1, none⟩ = some (.bool false) := b1.cell 1
    have k12 : w3.cell? ⟨w.heap.size, 2, none⟩ = some (.bool false) := b1.cell 2
    have g10 : w3.frozen? ⟨w.heap.size, 0, none⟩ = false := b1.frozen 0
    have g11 : w3.frozen? ⟨w.heap.size, 1, none⟩ = false := b1.frozen 1
    have g12 : w3.frozen? ⟨w.heap.size, 2, none⟩ = false := b1.frozen 2
    have k20 : w3.cell? ⟨w.heap.size + 1, 0, none⟩ = some (.int .i64 i) := b2.cell 0
    have k21 : w3.cell? ⟨w.heap.size + 1, 1, none⟩ = some (.bool false) := b2.cell 1
    have k22 : w3.cell? ⟨w.heap.size + 1, 2, none⟩ = some (.bool true) := b2.cell 2
    have k30 : w3.cell? ⟨p, 0, none⟩ = some (.pointer (some ⟨rp, 0, none⟩)) := b3.cell 0
    have k44 : w3.cell? ⟨rp, 4, none⟩ = some (.bool false) := b4.cell 4
    have g44 : w3.frozen? ⟨rp, 4, none⟩ = false := b4.frozen 4
    have hr1 : rp ≠ w.heap.size := by omega
    have hr2 : rp ≠ w.heap.size + 1 := by omega
    replace b4 := Hd b4;replace h1 := Hd h1;replace h2 := Hd h2;replace HW := Hd HW
    have v0 : ∀ u, Blk (w3.setCell ⟨rp, 4, none⟩ u) w.heap.size #[Value.int IntKind.i64 0, Value.bool false, Value.bool false] 297 := fun u => b1.far (fun e => by simp at e; omega) u
    have q0 : ∀ u a, ((w3.setCell ⟨rp, 4, none⟩ u).setCell ⟨w.heap.size, 0, none⟩ a).cell? ⟨w.heap.size, 0, none⟩ = some a := fun u a => by rw [((v0 u).set 0 a).cell]; rfl
    have q1 : ∀ u a e, (((w3.setCell ⟨rp, 4, none⟩ u).setCell ⟨w.heap.size, 0, none⟩ a).setCell ⟨w.heap.size, 1, none⟩ e).cell? ⟨w.heap.size, 1, none⟩ = some e := fun u a e => by rw [(((v0 u).set 0 a).set 1 e).cell]; rfl
    have q2 : ∀ u a e g, ((((w3.setCell ⟨rp, 4, none⟩ u).setCell ⟨w.heap.size, 0, none⟩ a).setCell ⟨w.heap.size, 1, none⟩ e).setCell ⟨w.heap.size, 2, none⟩ g).cell? ⟨w.heap.size, 2, none⟩ = some g := fun u a e g => by rw [((((v0 u).set 0 a).set 1 e).set 2 g).cell]; rfl
    clear HT A hl B k0 k4 c0' c1' c0'' c1'' k0'' k4'' f4'' hdel E h3 HW2 b1 b2 b3 hnew v0;go_wp2
    refine bodyPost_ret (v := .tuple #[.agg #[.int .i64 i, .bool false, .bool true], .int .i64 0]) (by simp [results, results191, go_sem, q0, q1, q2]) rfl ⟨rfl, ?_⟩
    have hc : Ch (fun b => F b ∧ c b ≠ 0) w ((((w3.setCell ⟨rp, 4, none⟩ (.bool true)).setCell ⟨w.heap.size, 0, none⟩ (.int .i64 i)).setCell ⟨w.heap.size, 1, none⟩ (.bool false)).setCell ⟨w.heap.size, 2, none⟩ (.bool true)) :=
     (((((HW.out.mono (fun b _ h => (h.elim (fun e => ⟨e ▸ hmb.1, by rw [e, hmb.2]; omega⟩) (fun e => ⟨e.1, by have := e.2; omega⟩) : F b ∧ c b ≠ 0))).setCell (p := ⟨rp, 4, .none⟩) (fun _ => ⟨hrp.1, by have := hrp.2; simp only; omega⟩) _).setCell (p := ⟨w.heap.size, 0, .none⟩) (fun h => absurd h (Nat.lt_irrefl _)) _).setCell (p := ⟨w.heap.size, 1, .none⟩) (fun h => absurd h (Nat.lt_irrefl _)) _).setCell (p := ⟨w.heap.size, 2, .none⟩) (fun h => absurd h (Nat.lt_irrefl _)) _)
    have hc3 : Ch (fun b => b = rp ∨ b = w.heap.size) w3 ((((w3.setCell ⟨rp, 4, none⟩ (.bool true)).setCell ⟨w.heap.size, 0, none⟩ (.int .i64 i)).setCell ⟨w.heap.size, 1, none⟩ (.bool false)).setCell ⟨w.heap.size, 2, none⟩ (.bool true)) :=
     (((((Ch.refl _ w3).setCell (p := ⟨rp, 4, .none⟩) (fun _ => .inl rfl) _).setCell (p := ⟨w.heap.size, 0, .none⟩) (fun _ => .inr rfl) _).setCell (p := ⟨w.heap.size, 1, .none⟩) (fun _ => .inr rfl) _).setCell (p := ⟨w.heap.size, 2, .none⟩) (fun _ => .inr rfl) _)
    refine ⟨H.out.turn (sp := sp) hrp ?_ (h1.out.ch hc3 ?_) ⟨mb, rfl, ?_, hmb⟩ hc, hc.mono (fun _ _ h => h.1)⟩
    ·have z1 : Blk (w3.setCell ⟨rp, 4, none⟩ (.bool true)) rp (reqCells sp ⟨(runFail ⟨st, dn, false⟩).1, up, cpu, who, true⟩) 190 := b4.out.set 4 _
     exact ((z1.far (fun e => by simp at e; omega) _).far (fun e => by simp at e; omega) _).far (fun e => by simp at e; omega) _
    ·exact fun b hb e => e.elim (fun e => by subst e; have := hb.2.symm.trans hrp.2; omega) (fun e => by have := H.out.lt _ hb.1; omega)
    ·have z := (hM.out.ch ((((Ch.refl (fun _ => False) w).alloc (Obj.cells #[Value.int IntKind.i64 0, Value.bool false, Value.bool false] 297)).drewN (n + m)).alloc (Obj.cells #[Value.int IntKind.i64 i, Value.bool false, Value.bool true] 297)) (fun h => h)).del i
     rw [encB_del] at z
     exact (MapAt.ch z h2.out (fun e => hne2 _ e rfl)).ch hc3 (fun e => e.elim (fun e => by subst e; have := hrp.2.symm.trans hmb.2; omega) (fun e => by omega))
end
section
open Go.Shelf
attribute [local go_sem] Oper.semAt_some
theorem down_any (F : Fence) (n : Nat) (h338 : F.fn 338) (hro : F.round = none) (p : Nat) (w : World) : CallsIn F n prog 338 #[.pointer (some ⟨p, 0, none⟩)] w fun e w' => e = .returned (.func (.func 356) #[] #[.pointer (some ⟨w.heap.size, 0, none⟩)]) ∧ w' = w.alloc (.cells #[.pointer (some ⟨p, 0, none⟩)] 178) := by
 refine callsIn_of_wp func338 rfl h338 ?_ hro
 simp only [ntmps338, List.size_toArray, List.length_cons, List.length_nil, Nat.reduceAdd, Nat.reduceSub, Array.replicate_succ, Array.replicate_zero, List.push_toArray, List.append_toArray, List.nil_append, List.cons_append]
 gi_wp2
 go_ret
 exact ⟨rfl, rfl⟩
def downL (k : Nat) : List (Fin 8) := ([7, 6, 5, 4, 3, 2, 1, 0] : List (Fin 8)).take k
theorem downL_snoc (k : Nat) (hk : k < 8) : downL (k + 1) = downL k ++ [⟨7 - k, by omega⟩] := by
 rcases (by omega : k = 0 ∨ k = 1 ∨ k = 2 ∨ k = 3 ∨ k = 4 ∨ k = 5 ∨ k = 6 ∨ k = 7) with rfl | rfl | rfl | rfl | rfl | rfl | rfl | rfl <;> rfl
theorem downL_len (k : Nat) (hk : k ≤ 8) : (downL k).length = k := by simp [downL]; omega
def KpB (n₀ B : Nat) (W W' : World) : Prop := Below n₀ W W' ∧ W'.heap[B]? = W.heap[B]?
theorem kpB_t {n₀ B : Nat} {U V W : World} (h : KpB n₀ B U V) (k : KpB n₀ B V W) : KpB n₀ B U W := ⟨h.1.trans k.1, k.2.trans h.2⟩
theorem down1_stops (F : Fence) (n : Nat) (h356 : F.fn 356) (hro : F.round = none) (hn : 1 ≤ n) (B n₀ p : Nat) (ptrs : Nat → Nat) (w : World) (hB : w.heap[B]? = some (.cells #[.pointer (some ⟨p, 0, none⟩)] 178 (0, 0))) (hp : p < n₀) (hl : ∀ i, i < 8 → w.cell? ⟨p, i, none⟩ = some (.pointer (some ⟨ptrs i, 0, none⟩))) :
  SeqStopsK F n prog 356 #[.pointer (some ⟨B, 0, none⟩)] (fun i : Fin 8 => #[.pointer (some ⟨ptrs i.1, 0, none⟩)]) (KpB n₀ B) (fun xs => xs = downL 8) (fun pre => ∃ k, k ≤ 8 ∧ pre = downL k) 8 w := fun l J Jx W hW hJ hJx hY h0 => by
 refine callsIn_of_wp func356 rfl h356 ?_ hro
 simp only [ntmps356, List.size_toArray, List.length_cons, List.length_nil, Nat.reduceAdd, Nat.reduceSub, Array.replicate_succ, Array.replicate_zero, List.push_toArray, List.append_toArray, List.nil_append, List.cons_append]
 have hBW : W.heap[B]? = some (.cells #[.pointer (some ⟨p, 0, none⟩)] 178 (0, 0)) := (hW.block B (Array.getElem?_eq_some_iff.1 hB).1).trans hB
 have hlW : ∀ i, i < 8 → W.cell? ⟨p, i, none⟩ = some (.pointer (some ⟨ptrs i, 0, none⟩)) := fun i hi => keepcell hW (hl i hi)
 clear hB hl hW hJ hJx
 gi_wp2
 gi_loopw [3] (fun iv wr => ∃ k : Nat, iv = .int .i64 (7 - (k : Int)) ∧ k ≤ 8 ∧ J (downL k) wr ∧ wr.heap[B]? = some (.cells #[.pointer (some ⟨p, 0, none⟩)] 178 (0, 0)) ∧ (∀ i, i < 8 → wr.cell? ⟨p, i, none⟩ = some (.pointer (some ⟨ptrs i, 0, none⟩))))
  (fun iv _ => (intOf iv + 1).toNat)
 case atStart =>
  exact ⟨0, rfl, by omega, h0, hBW, hlW⟩
 case round =>
  obtain ⟨k, rfl, hk, hJs, hb, hl⟩ := hrel
  by_cases h8 : k = 8
  ·subst h8
   gi_wp2
   go_end0
   exact ⟨⟨_, rfl⟩, .inl ⟨downL 8, rfl, hJs⟩⟩
  ·have hk8 : k < 8 := by omega
   have cb : wr.cell? ⟨B, 0, none⟩ = some (.pointer (some ⟨p, 0, none⟩)) := by
    have h1 : Blk wr B #[.pointer (some ⟨p, 0, none⟩)] 178 := hb
    exact h1.cell 0
   have cl := hl (7 - k) (by omega)
   obtain ⟨fn, tmps, assign, body, hy, hR⟩ := hY (downL k) ⟨7 - k, by omega⟩ wr hJs (by rw [downL_len k hk]; omega)
   dsimp only at hy
   have hge : (0 : Int) ≤ 7 - (k : Int) := by omega
   gi_wp2
   refine hR.mono ?_;rintro e W3 (⟨rfl, hJ3, hk3⟩ | ⟨rfl, hJx3⟩)
   ·rw [← downL_snoc k hk8] at hJ3
    gi_wp2
    go_roundw
    case rel => exact ⟨k + 1, by congr 1; omega, by omega, hJ3, hk3.2.trans hb, fun i hi => (hk3.1.cell (p := ⟨p, i, none⟩) hp).trans (hl i hi)⟩
    case measure => simp [intOf]; omega
   ·rw [← downL_snoc k hk8] at hJx3
    gi_wp2
    refine bodyPost_ret (results_none rfl _ _ _) rfl ?_
    exact ⟨⟨_, rfl⟩, .inr ⟨downL (k + 1), ⟨k + 1, by omega, rfl⟩, hJx3⟩⟩
theorem down_stops (F : Fence) (n : Nat) (h356 : F.fn 356) (hro : F.round = none) (hn : 1 ≤ n) (B n₀ p : Nat) (ptrs : Nat → Nat) (w : World) (hB : w.heap[B]? = some (.cells #[.pointer (some ⟨p, 0, none⟩)] 178 (0, 0))) (hp : p < n₀) (hl : ∀ i, i < 8 → w.cell? ⟨p, i, none⟩ = some (.pointer (some ⟨ptrs i, 0, none⟩))) :
  SeqStopsK F n prog 356 #[.pointer (some ⟨B, 0, none⟩)] (fun i : Fin 8 => #[.pointer (some ⟨ptrs i.1, 0, none⟩)]) (KpB n₀ B) (fun xs => xs = downL 8) (fun pre => ∃ k, k ≤ 8 ∧ pre = downL k) 8 w := down1_stops F n h356 hro hn B n₀ p ptrs w hB hp hl
theorem kpB_b {n₀ B z : Nat} (hn : n₀ ≤ z) (hB : B < z) : ∀ (W : World) (l : Nat) (o o' : Obj), z ≤ l → W.heap[l]? = some o → o.isCells = false → o.isWalk = false → KpB n₀ B W (W.putObj l o') := fun W l o o' hl ho h1 h2 => ⟨(Below.refl n₀ W).grown (grownBy_putObj' W l o') (by have := (Array.getElem?_eq_some_iff.1 ho).1; omega) (fun k e => by cases e; omega), World.putObj_heap_other (by omega)⟩
def topF (lv : List (List Int)) : Option (Fin 8) := (downL 8).find? (fun i => lv.getD i.1 [] != [])
def topWhy : Option (Fin 8) → Int
 | none => 12
 | some _ => 0
def topPtr (ptrs : Nat → Nat) : Option (Fin 8) → Value
 | none => .pointer none
 | some i => .pointer (some ⟨ptrs i.1, 0, none⟩)
theorem topF_none {lv : List (List Int)} (h : ∀ y ∈ downL 8, lv.getD y.1 [] = []) : topF lv = none := by
 unfold topF;rw [List.find?_eq_none]
 intro x hx
 have := h x hx
 simp only [List.getD_eq_getElem?_getD] at this
 simp [this]
theorem downL_split (k : Nat) (hk : k < 8) : downL 8 = downL k ++ (⟨7 - k, by omega⟩ :: (downL 8).drop (k + 1)) := by
 rcases (by omega : k = 0 ∨ k = 1 ∨ k = 2 ∨ k = 3 ∨ k = 4 ∨ k = 5 ∨ k = 6 ∨ k = 7) with rfl | rfl | rfl | rfl | rfl | rfl | rfl | rfl <;> rfl
theorem topF_some {lv : List (List Int)} {k : Nat} {pre : List (Fin 8)} {x : Fin 8} (hk : k ≤ 8) (he : pre ++ [x] = downL k) (h : ∀ y ∈ pre, lv.getD y.1 [] = []) (hx : lv.getD x.1 [] ≠ []) : topF lv = some x := by
 have hl := congrArg List.length he
 rw [downL_len k hk] at hl
 simp at hl
 obtain ⟨m, rfl⟩ : ∃ m, k = m + 1 := ⟨pre.length, hl.symm⟩
 rw [downL_snoc m (by omega)] at he
 have h2 := List.append_inj he (by rw [downL_len m (by omega)]; omega)
 obtain ⟨h2, h3⟩ := h2;subst h2
 have h4 : x = ⟨7 - m, by omega⟩ := by simpa using h3
 unfold topF
 rw [downL_split m (by omega), List.find?_append, List.find?_eq_none.2 (fun y hy => by have := h y hy; simp only [List.getD_eq_getElem?_getD] at this; simp [this])]
 subst h4;rw [Option.none_or, List.find?_cons_of_pos]
 simpa using hx
theorem ptop_in (F : Fence) (n : Nat) (hfn : ∀ f, F.fn f) (hro : F.round = none) (hw : ∀ m f args w R, Calls prog f args w R → CallsIn F m prog f args w R) (hn : 3 ≤ n) (w : World) {G : Nat → Prop} {p mb : Nat} {ptrs c : Nat → Nat} {q : Prio} (h : PrioAtQ w G p ptrs mb c q) :
  CallsIn F n prog 323 #[.pointer (some ⟨p, 0, none⟩)] w fun e w' => e = .returned (.tuple #[topPtr ptrs (topF q.lv), .int .i64 (topWhy (topF q.lv))]) ∧ Below w.heap.size w w' := by
 have h1 : 1 ≤ n := by omega
 refine callsIn_of_wp_marks func323 rfl (hfn 323) ?_ hro
 simp only [ntmps323, List.size_toArray, List.length_cons, List.length_nil, Nat.reduceAdd, Nat.reduceSub, Array.replicate_succ, Array.replicate_zero, List.push_toArray, List.append_toArray, List.nil_append, List.cons_append]
 gi_wp2_with (gi_at_call 338; refine (down_any F (n - 1) (hfn 338) hro p _).mono ?_; rintro e w' ⟨rfl, rfl⟩)
 obtain ⟨W0, hW0⟩ : ∃ W0, ((w.alloc (.cells #[.pointer none] 223)).alloc (.cells #[.int .i64 0] 24)).alloc (.cells #[.pointer (some ⟨p, 0, none⟩)] 178) = W0 := ⟨_, rfl⟩
 have hs0 : W0.heap.size = w.heap.size + 3 := by rw [← hW0]; simp
 have b0 : Blk W0 w.heap.size #[.pointer none] 223 := by rw [← hW0]; exact ((Blk.new w _ _).alloc _).alloc _
 have b1 : Blk W0 (w.heap.size + 1) #[.int .i64 0] 24 := by rw [← hW0]; exact (Blk.at (w := w.alloc (.cells #[.pointer none] 223)) _ _ (by simp)).alloc _
 have b2 : Blk W0 (w.heap.size + 1 + 1) #[.pointer (some ⟨p, 0, none⟩)] 178 := by rw [← hW0]; exact Blk.at (w := (w.alloc (.cells #[.pointer none] 223)).alloc (.cells #[.int .i64 0] 24)) _ _ (by simp)
 have hB0 : Below w.heap.size w W0 := by rw [← hW0]; exact (((Below.refl _ w).alloc (Nat.le_refl _) _).alloc (by simp) _).alloc (by simp; omega) _
 rw [hW0];have hlt := h.head.lt
 refine wpIn_rangeFunc_ownF hro h1 (gf := 356) (lb := #[.pointer (some ⟨w.heap.size + 1 + 1, 0, none⟩)]) rfl (hfn 356) (enters_of func356 (by kernel_rfl) rfl)
  (down_stops F (n - 1) (hfn 356) hro (by omega) (w.heap.size + 1 + 1) w.heap.size p ptrs W0 b2 hlt (fun i hi => keepcell hB0 (h.level i hi))) kpB_t (kpB_b (by omega) (by omega)) (Below.refl _ _) (fun _ => rfl)
  (fun pre W => ((∀ y ∈ pre, q.lv.getD y.1 [] = []) ∧ W.cell? ⟨w.heap.size, 0, none⟩ = some (.pointer none) ∧ W.frozen? ⟨w.heap.size, 0, none⟩ = false ∧ W.cell? ⟨w.heap.size + 1, 0, none⟩ = some (.int .i64 0) ∧ W.frozen? ⟨w.heap.size + 1, 0, none⟩ = false) ∧ Below w.heap.size w W)
  (fun c pre W => (c = .ret ∧ ∃ pre' x, pre = pre' ++ [x] ∧ (∀ y ∈ pre', q.lv.getD y.1 [] = []) ∧ q.lv.getD x.1 [] ≠ [] ∧ W.cell? ⟨w.heap.size, 0, none⟩ = some (.pointer (some ⟨ptrs x.1, 0, none⟩)) ∧ W.cell? ⟨w.heap.size + 1, 0, none⟩ = some (.int .i64 0)) ∧ Below w.heap.size w W)
  (OwnFrom.and (Own.from (fun s A B row hs hg hr => ⟨hs.1, cell_kept hs.2.1 hg hr, (frozen_kept hs.2.1 hg hr).trans hs.2.2.1, cell_kept hs.2.2.2.1 hg hr, (frozen_kept hs.2.2.2.1 hg hr).trans hs.2.2.2.2⟩) _) (ownFrom_below (Nat.le_refl _) (by omega)))
  (fun c => OwnFrom.and (Own.from (fun s A B row hs hg hr => by obtain ⟨h1, pre', x, h2, h3, h4, h5, h6⟩ := hs; exact ⟨h1, pre', x, h2, h3, h4, cell_kept h5 hg hr, cell_kept h6 hg hr⟩) _) (ownFrom_below (Nat.le_refl _) (by omega)))
  ⟨⟨by simp, b0.cell 0, b0.frozen 0, b1.cell 0, b1.frozen 0⟩, hB0⟩
  (fun x => { tmps := #[.pointer (some ⟨p, 0, none⟩), undef, .pointer (some ⟨w.heap.size, 0, none⟩), .pointer (some ⟨w.heap.size + 1, 0, none⟩), .pointer (some ⟨ptrs x.1, 0, none⟩), .pointer (some ⟨p, 0, none⟩), .bool false, .pointer (some ⟨p, 0, none⟩), .func (.func 356) #[] #[.pointer (some ⟨w.heap.size + 1 + 1, 0, none⟩)], .pointer (some ⟨ptrs x.1, 0, none⟩), undef, undef, undef, undef], defers := [] }) ?assign ?body ?done ?stop
 case assign =>
  intro l x W K hK
  gi_wp2
  exact hK
 case body =>
  rintro l pre x W ⟨⟨hp, hc0, hf0, hc1, hf1⟩, hB⟩ _
  have hd : 1 ≤ n - 1 - 1 := by omega
  have A := qlen_any W _ _ _ _ ((h.lv x.1 x.2).ch (Ch.off hB) (fun _ _ h => h))
  by_cases hx : q.lv.getD x.1 [] = []
  ·have hx' := hx
   rw [hx] at A
   gi_wp2_with (gi_at_call 355; refine (CallsIn.inRound l (hw _ _ _ _ _ A)).mono ?_; rintro e w' ⟨rfl, rfl⟩)
   exact ⟨KeepsOthers.refl _, ⟨Below.refl _ _, rfl⟩, ⟨fun y hy => (List.mem_append.1 hy).elim (hp y) (fun e => by simp at e; subst e; exact hx'), hc0, hf0, hc1, hf1⟩, hB⟩
  ·have hln : (0 : Int) < ((q.lv.getD x.1 []).length : Nat) := by have := List.length_pos_iff.2 hx; omega
   generalize hL : (q.lv.getD x.1 []).length = L at *;clear hL
   gi_wp2_with (gi_at_call 355; refine (CallsIn.inRound l (hw _ _ _ _ _ A)).mono ?_; rintro e w' ⟨rfl, rfl⟩)
   refine ⟨KeepsOthers.trans (KeepsOthers.setCell _ _ _) (KeepsOthers.setCell _ _ _), ⟨rfl, pre, x, rfl, hp, hx, ?_, ?_⟩, (hB.setCell (p := ⟨w.heap.size, 0, none⟩) (Nat.le_refl _) _).setCell (p := ⟨w.heap.size + 1, 0, none⟩) (Nat.le_succ _) _⟩
   ·rw [World.cell?_setCell_far _ _ _ _ (by simp)]; exact World.cell?_setCell_same' _ _ _ (by rw [hc0]; rfl)
   ·exact World.cell?_setCell_same' _ _ _ (by rw [World.cell?_setCell_far _ _ _ _ (by simp), hc1]; rfl)
 case done =>
  rintro D ys W hD rfl ⟨⟨hne, hc0, hf0, hc1, hf1⟩, hB⟩ hK
  gi_wp2
  have hK' := ((KeepsOthers.setCell W ⟨w.heap.size, 0, none⟩ (.pointer none)).trans (KeepsOthers.setCell (W.setCell ⟨w.heap.size, 0, none⟩ (.pointer none)) ⟨w.heap.size + 1, 0, none⟩ (.int .i64 12))).same D _ hK rfl
  have e0 : ((W.setCell ⟨w.heap.size, 0, none⟩ (.pointer none)).setCell ⟨w.heap.size + 1, 0, none⟩ (.int .i64 12)).cell? ⟨w.heap.size, 0, none⟩ = some (.pointer none) := by rw [World.cell?_setCell_far _ _ _ _ (by simp)]; exact World.cell?_setCell_same' _ _ _ (by rw [hc0]; rfl)
  have e1 : ((W.setCell ⟨w.heap.size, 0, none⟩ (.pointer none)).setCell ⟨w.heap.size + 1, 0, none⟩ (.int .i64 12)).cell? ⟨w.heap.size + 1, 0, none⟩ = some (.int .i64 12) := World.cell?_setCell_same' _ _ _ (by rw [World.cell?_setCell_far _ _ _ _ (by simp), hc1]; rfl)
  refine ⟨by simp, .inl ⟨_, _, rfl, run_takeDeferred hK', ?_⟩⟩
  have e0' := cell_kept e0 (grownBy_putObj' _ D (.deferred none)) (fun r e => by cases e; exact ⟨_, hK', rfl⟩)
  have e1' := cell_kept e1 (grownBy_putObj' _ D (.deferred none)) (fun r e => by cases e; exact ⟨_, hK', rfl⟩)
  have ht : topF q.lv = none := topF_none hne
  rw [ht]
  refine ⟨.tuple #[.pointer none, .int .i64 12], ?_, rfl, (((hB.setCell (p := ⟨w.heap.size, 0, none⟩) (Nat.le_refl _) _).setCell (p := ⟨w.heap.size + 1, 0, none⟩) (Nat.le_succ _) _)).trans (belowK_b (w := w) (Nat.le_refl _) _ D _ _ (by omega) hK' rfl rfl)⟩
  simp [results, f323, go_sem, e0', e1']
 case stop =>
  rintro D c pre W hD ⟨k, hk, hpre⟩ ⟨⟨rfl, pre', x, rfl, he, hx, hc0, hc1⟩, hB⟩ hK
  gi_wp2
  refine ⟨by simp, .inl ⟨_, _, rfl, run_takeDeferred hK, ?_⟩⟩
  have e0' := cell_kept hc0 (grownBy_putObj' _ D (.deferred none)) (fun r e => by cases e; exact ⟨_, hK, rfl⟩)
  have e1' := cell_kept hc1 (grownBy_putObj' _ D (.deferred none)) (fun r e => by cases e; exact ⟨_, hK, rfl⟩)
  rw [topF_some hk hpre he hx]
  refine ⟨.tuple #[.pointer (some ⟨ptrs x.1, 0, none⟩), .int .i64 0], ?_, rfl, hB.trans (belowK_b (w := w) (Nat.le_refl _) W D _ _ (by omega) hK rfl rfl)⟩
  simp [results, f323, go_sem, e0', e1']
end
theorem ptop_any (w : World) {G : Nat → Prop} {p mb : Nat} {ptrs c : Nat → Nat} {q : Prio} (h : PrioAtQ w G p ptrs mb c q) :
  Calls prog 323 #[.pointer (some ⟨p, 0, none⟩)] w fun e w' => e = .returned (.tuple #[topPtr ptrs (topF q.lv), .int .i64 (topWhy (topF q.lv))]) ∧ Below w.heap.size w w' :=
 (callsIn_wide (n := 3)).1 (ptop_in Fence.wide 3 (fun _ => trivial) rfl (fun m f args w R h => callsIn_wide.2 h) (Nat.le_refl _) w h)
def prioTop (q : Prio) : Int × Int :=
 match topF q.lv with
 | none => (0, 12)
 | some i => frontF (q.lv.getD i.1 [])
theorem pTop_any (w : World) {q : Prio} (h : PrioAt w F p q) : Calls prog 275 #[.pointer (some ⟨p, 0, none⟩)] w fun e w' => e = .returned (.tuple #[.int .i64 (prioTop q).1, .int .i64 (prioTop q).2]) ∧ Below w.heap.size w w' := by
 obtain ⟨ptrs, mb, c, h⟩ := h;have A := Hd (ptop_any w h);unfold prioTop
 cases ht : topF q.lv with
 | none =>
  rw [ht] at A;unfold topPtr topWhy at A;clear h ht
  go_enter func275, ntmps275
  go_wp2_with fail;refine A.out.mono ?_;rintro e w1 ⟨rfl, hb⟩;replace hb := Hd hb;go_wp2;go_returns
  exact ⟨rfl, hb.out⟩
 | some i =>
  rw [ht] at A;unfold topPtr topWhy at A
  have B := fun w1 (hb : Below w.heap.size w w1) => Hd (qfront_any w1 _ _ _ _ ((h.lv i.1 i.2).ch (Ch.off hb) (fun _ _ h => h)))
  dsimp only;generalize frontF (q.lv.getD i.1 []) = r at *;clear h ht
  go_enter func275, ntmps275
  go_wp2_with fail;refine A.out.mono ?_;rintro e w1 ⟨rfl, hb⟩
  replace B := B w1 hb
  replace hb := Hd hb;go_wp2_with fail;refine B.out.mono ?_;rintro e w2 ⟨rfl, n, rfl⟩;go_wp2;go_returns
  exact ⟨rfl, hb.out.trans ((belowN w1 n).mono hb.out.size)⟩
def prioTurn (q : Prio) : Prio × Int :=
 match topF q.lv with
 | none => (q, 12)
 | some i => (⟨q.lv.set i.1 (turnF 32 (q.lv.getD i.1 [])).1, q.pr⟩, (turnF 32 (q.lv.getD i.1 [])).2)
theorem pturn_any (w : World) {q : Prio} (h : PrioAt w F p q) : Calls prog 276 #[.pointer (some ⟨p, 0, none⟩)] w fun e w' => e = .returned (.int .i64 (prioTurn q).2) ∧ PrioAt w' (Plus w w' F) p (prioTurn q).1 ∧ Ch F w w' := by
 have HT := Hd h;obtain ⟨ptrs, mb, c, h⟩ := h;have A := Hd (ptop_any w h);unfold prioTurn
 cases ht : topF q.lv with
 | none =>
  rw [ht] at A;unfold topPtr topWhy at A;clear h ht
  go_enter func276, ntmps276
  go_wp2_with fail;refine A.out.mono ?_;rintro e w1 ⟨rfl, hb⟩;replace hb := Hd hb;go_wp2;go_returns
  exact ⟨rfl, (HT.out.below hb.out).mono Plus.sub (Plus.lt HT.out.ltF hb.out.size), Ch.of_below hb.out⟩
 | some i =>
  rw [ht] at A;unfold topPtr topWhy at A
  have B := fun w1 (hb : Below w.heap.size w w1) => Hd (turn_any w1 _ _ _ _ ((h.lv i.1 i.2).ch (Ch.off hb) (fun _ _ h => h)))
  have H := Hd h;dsimp only;clear h ht
  go_enter func276, ntmps276
  go_wp2_with fail;refine A.out.mono ?_;rintro e w1 ⟨rfl, hb⟩
  replace B := B w1 hb
  replace hb := Hd hb;go_wp2_with fail;refine B.out.mono ?_;rintro e w2 ⟨rfl, h1, h2⟩;replace h1 := Hd h1;replace h2 := Hd h2;go_wp2;go_returns
  have hc : Ch (Col F c i.1) w w2 := (Ch.of_below hb.out).then h2.out (fun _ _ h => h)
  have h3 : FifoAt w2 (Plus w w2 (Col F c i.1)) (ptrs i.1) 32 (turnF 32 (q.lv.getD i.1 [])).1 := h1.out.mono (fun b hb' => hb'.elim .inl (fun e => .inr ⟨Nat.le_trans hb.out.size e.1, e.2⟩))
  exact ⟨rfl, ⟨ptrs, mb, _, H.out.turn i.2 h3 hc⟩, Col.ch hc⟩
def partCells (ptrs : Nat → Nat) (mb k : Nat) : Array Value := ((List.range 8).map (fun i => if i < k then Value.pointer (some ⟨ptrs i, 0, none⟩) else .pointer none) ++ [Value.map (some mb), Value.int .i64 32]).toArray
theorem partCells_set {ptrs : Nat → Nat} {mb k x : Nat} (hk : k < 8) : (partCells ptrs mb k).setIfInBounds k (.pointer (some ⟨x, 0, none⟩)) = partCells (fun i => if i = k then x else ptrs i) mb (k + 1) := by
 rcases (by omega : k = 0 ∨ k = 1 ∨ k = 2 ∨ k = 3 ∨ k = 4 ∨ k = 5 ∨ k = 6 ∨ k = 7) with rfl | rfl | rfl | rfl | rfl | rfl | rfl | rfl <;> rfl
theorem partCells_get {ptrs : Nat → Nat} {mb k : Nat} (hk : k < 8) : (partCells ptrs mb k)[k]? = some (.pointer none) := by
 rcases (by omega : k = 0 ∨ k = 1 ∨ k = 2 ∨ k = 3 ∨ k = 4 ∨ k = 5 ∨ k = 6 ∨ k = 7) with rfl | rfl | rfl | rfl | rfl | rfl | rfl | rfl <;> rfl
structure PrioPart (w w' : World) (mb k : Nat) (ptrs c : Nat → Nat) : Prop where
 head : Blk w' (mb + 1) (partCells ptrs mb k) 279
 map : IMapAt w' mb []
 fp : Col (Plus w w' (fun _ => False)) c 8 (mb + 1)
 fm : Col (Plus w w' (fun _ => False)) c 9 mb
 lv : ∀ i, i < k → FifoAt w' (Col (Plus w w' (fun _ => False)) c i) (ptrs i) 32 []
 below : Below w.heap.size w w'
theorem PrioPart.lt {mb k : Nat} {ptrs c : Nat → Nat} (h : PrioPart w w' mb k ptrs c) : ∀ b, Plus w w' (fun _ => False) b → b < w'.heap.size := fun b hb => hb.elim (fun h => h.elim) (fun h => h.2)
theorem PrioPart.step {w w1 w2 : World} {mb k : Nat} {ptrs c : Nat → Nat} (h : PrioPart w w1 mb k ptrs c) (hk : k < 8) {x : Nat} (hx : FifoAt w2 (Plus w1 w2 (fun _ => False)) x 32 []) (hb : Below w1.heap.size w1 w2) : PrioPart w (w2.setCell ⟨mb + 1, k, none⟩ (.pointer (some ⟨x, 0, none⟩))) mb (k + 1) (fun i => if i = k then x else ptrs i) (recol w1 c k) := by
 have hc : Ch (fun _ => False) w1 w2 := Ch.off hb
 have hlt := h.head.lt
 have hmb : w.heap.size ≤ mb := h.fm.1.elim (fun e => e.elim) (fun e => e.1)
 have hc2 : Ch (fun b => b = mb + 1) w1 (w2.setCell ⟨mb + 1, k, none⟩ (.pointer (some ⟨x, 0, none⟩))) := (hc.mono (fun _ _ h => h.elim)).put _ _
 have hsub : ∀ b, Plus w w1 (fun _ => False) b → Plus w (w2.setCell ⟨mb + 1, k, none⟩ (.pointer (some ⟨x, 0, none⟩))) (fun _ => False) b := fun b hb' => hb'.elim .inl (fun e => .inr ⟨e.1, Nat.lt_of_lt_of_le e.2 (by simpa using hb.size)⟩)
 have hold : ∀ i b, Col (Plus w w1 (fun _ => False)) c i b → Col (Plus w (w2.setCell ⟨mb + 1, k, none⟩ (.pointer (some ⟨x, 0, none⟩))) (fun _ => False)) (recol w1 c k) i b := fun i b hb' => ⟨hsub b hb'.1, (recol_old (h.lt b hb'.1)).trans hb'.2⟩
 refine ⟨?_, h.map.ch hc2 (fun e => by have e : mb = mb + 1 := e; omega), hold _ _ h.fp, hold _ _ h.fm, fun i hi => ?_, (h.below.trans (hb.mono h.below.size)).setCell (p := ⟨mb + 1, k, none⟩) (by simp only; omega) _⟩
 ·have := (h.head.ch hc (fun h => h)).set k (.pointer (some ⟨x, 0, none⟩))
  rwa [partCells_set hk] at this
 ·by_cases e : i = k
  ·subst e
   simp only [if_true]
   refine (hx.ch ((Ch.refl (fun b => b = mb + 1) w2).put _ _) (fun b hb' e => by have e : b = mb + 1 := e; subst e; exact hb'.elim (fun h => h) (fun h2 => by omega))).mono (fun b hb' => hb'.elim (fun h => h.elim) (fun h2 => ⟨.inr ⟨by have := h.below.size; omega, by simpa using h2.2⟩, recol_new h2.1⟩))
  ·simp only [e, if_false]
   exact ((h.lv i (by omega)).ch hc2 (fun b hb' e => by have e : b = mb + 1 := e; subst e; have := hb'.2.symm.trans h.fp.2; omega)).mono (hold i)
theorem prio_new (w : World) : Calls prog 113 #[.int .i64 32] w fun e w' => (∃ p, e = .returned (.tuple #[.pointer (some ⟨p, 0, none⟩), .int .i64 0]) ∧ PrioAt w' (Plus w w' (fun _ => False)) p ⟨List.replicate 8 [], []⟩) ∧ Below w.heap.size w w' := by
 have hmm := @run_makeMap prog
 go_enter func113, ntmps113
 go_wp2
 have H0 : PrioPart w ((w.alloc (.map #[] 0)).alloc (.cells #[.pointer none, .pointer none, .pointer none, .pointer none, .pointer none, .pointer none, .pointer none, .pointer none, .map (some w.heap.size), .int .i64 32] 279)) w.heap.size 0 (fun _ => 0) (fun b => if b = w.heap.size then 9 else 8) := by
  refine ⟨?_, ?_, ⟨.inr ⟨by omega, by simp⟩, by simp⟩, ⟨.inr ⟨by omega, by simp; omega⟩, by simp⟩, fun i hi => by omega, ((Below.refl _ _).alloc (Nat.le_refl _) _).alloc (by simp) _⟩
  ·exact Blk.at _ _ (by simp)
  ·exact MapAt.ch (MapAt.new w) ((Ch.refl (fun _ => False) _).alloc _) (fun h => h)
 replace H0 := Hd H0
 go_loopw [12, 5, 6, 7] (fun iv _ _ _ wr => ∃ k : Nat, iv = .int .i64 k ∧ k ≤ 8 ∧ ∃ ptrs c, Hid (PrioPart w wr w.heap.size k ptrs c)) (fun iv _ _ _ _ => 8 - (intOf iv).toNat)
 case atStart => exact ⟨0, rfl, by omega, _, _, H0⟩
 case round =>
  clear H0 hmm;obtain ⟨k, rfl, hk, ptrs, c, H⟩ := hrel
  by_cases hlt : k < 8
  ·have A := Hd (fifo_new wr 32 (by omega) (by omega))
   have c0 : wr.cell? ⟨w.heap.size + 1, k, none⟩ = some (.pointer none) := by rw [H.out.head.cell k]; exact partCells_get hlt
   go_wp2_with fail;refine A.out.mono ?_;rintro e w2 ⟨⟨x, rfl, hx⟩, hb⟩
   have hz := (H.out.head.ch (Ch.off hb) (fun h => h))
   have c2 : w2.cell? ⟨w.heap.size + 1, k, none⟩ = some (.pointer none) := keepcell hb c0
   have f2 : w2.frozen? ⟨w.heap.size + 1, k, none⟩ = false := hz.frozen k
   have h2 := Hd (H.out.step hlt hx hb);clear hz hx hb;go_wp2;go_roundw
   case rel => exact ⟨k + 1, by go_num, hlt, _, _, h2⟩
   case measure => simp [intOf]; omega
  ·have : k = 8 := by omega
   subst this;go_wp2;go_returns;have H2 := H.out
   refine ⟨⟨_, rfl, ptrs, w.heap.size, c, H2.head, H2.map, H2.fp, H2.fm, H2.lt, fun i hi => ?_, rfl, fun x hx => by cases hx⟩, H2.below⟩
   have e : (List.replicate 8 ([] : List Int)).getD i [] = [] := by
    rcases (by omega : i = 0 ∨ i = 1 ∨ i = 2 ∨ i = 3 ∨ i = 4 ∨ i = 5 ∨ i = 6 ∨ i = 7) with rfl | rfl | rfl | rfl | rfl | rfl | rfl | rfl <;> rfl
   show FifoAt _ _ _ 32 ((List.replicate 8 ([] : List Int)).getD i [])
   rw [e]
   exact H2.lv i hi
end Go.Proofs.YtiocbpabbjgkhaaGreatDoor
