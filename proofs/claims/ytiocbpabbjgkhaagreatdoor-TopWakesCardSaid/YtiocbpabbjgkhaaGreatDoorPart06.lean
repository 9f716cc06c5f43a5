/- Part 6 of the proof: contracts and plain laws, each under the conditions that it names. -/
import Derived.Test.YtiocbpabbjgkhaaGreatDoorPart05
set_option maxRecDepth 100000
set_option maxHeartbeats 20000000
set_option linter.unusedVariables false
set_option linter.unusedSimpArgs false
namespace Go.Proofs.YtiocbpabbjgkhaaGreatDoor
open Go.RowKit Tryz
variable {w w' : World} {F : Nat → Prop} {p : Nat}
def coreSet (l : List Core) (cpu : Int) (f : Core → Core × Int) : List Core × Int :=
 if mayF l.length cpu ≠ 0 then (l, 3) else (l.set cpu.toNat (f (l.getD cpu.toNat noCore)).1, (f (l.getD cpu.toNat noCore)).2)
theorem coreSet_no {l : List Core} {cpu : Int} {f : Core → Core × Int} (h : mayF l.length cpu ≠ 0) : coreSet l cpu f = (l, 3) := by unfold coreSet; rw [if_pos h]
theorem coreSet_yes {l : List Core} {i : Nat} {f : Core → Core × Int} (h : mayF l.length (i : Int) = 0) : coreSet l i f = (l.set i (f (l.getD i noCore)).1, (f (l.getD i noCore)).2) := by unfold coreSet; rw [if_neg (by simp [h])]; rfl
theorem set_same {α : Type} {l : List α} {i : Nat} {d : α} (h : i < l.length) : l.set i (l.getD i d) = l := by
 apply List.ext_getElem?
 intro j
 rw [List.getElem?_set]
 split
 ·rename_i e; subst e; rw [getD_some h]
 ·rfl
theorem get_set {α : Type} {l : List α} {i : Nat} {x : α} (h : i < l.length) : (l.set i x)[i]? = some x := List.getElem?_set_self h
theorem set_set {α : Type} {l : List α} {i : Nat} {x y : α} : (l.set i x).set i y = l.set i y := List.set_set x
def countF (busy : Bool) (c : Core) : Core × Int := (⟨c.power, c.idle, c.way, c.since, wrap64 (c.steps + 1), if busy then wrap64 (c.busy + 1) else c.busy⟩, 0)
theorem ccount_any (w : World) {l : List Core} (h : CoresAt w F p l) (cpu : Int) (b : Bool) : Calls prog 120 #[.pointer (some ⟨p, 0, none⟩), .int .i64 cpu, .bool b] w fun e w' => e = .returned (.int .i64 (coreSet l cpu (countF b)).2) ∧ CoresAt w' F p (coreSet l cpu (countF b)).1 ∧ Ch F w w' ∧ w'.heap.size = w.heap.size := by
 by_cases hm : mayF l.length cpu = 0
 ·obtain ⟨i, rfl, hi⟩ := may_yes hm
  obtain ⟨q, h⟩ := h
  have hx := getD_some (d := noCore) hi
  have A := Hd (cfind_yes w h i hi);rw [coreSet_yes hm]
  have k4 := h.cell hx 4 (by omega)
  have k5 := h.cell hx 5 (by omega)
  have f4 : w.frozen? ⟨q, i * 6 + 4, none⟩ = false := h.row.frozen _
  have f5 : w.frozen? ⟨q, i * 6 + 5, none⟩ = false := h.row.frozen _
  have H := Hd h;have HX := Hd hx;have HI := Hd hi;clear hm h hx hi;generalize l.getD i noCore = x at *
  simp [coreL] at k4 k5
  cases b
  ·go_enter func120, ntmps120
   go_wp2_with fail;refine A.out.mono ?_;rintro e w1 ⟨rfl, rfl⟩;go_wp2;go_returns
   have h1 := H.out.set HX.out 4 (by omega) ⟨x.power, x.idle, x.way, x.since, wrap64 (x.steps + 1), x.busy⟩ (.int .i64 (wrap64 (x.steps + 1))) rfl
   exact ⟨rfl, ⟨q, h1⟩, (Ch.refl _ _).setCell (p := ⟨q, i * 6 + 4, none⟩) (fun _ => H.out.fq) _, by simp⟩
  ·go_enter func120, ntmps120
   go_wp2_with fail;refine A.out.mono ?_;rintro e w1 ⟨rfl, rfl⟩;go_wp2;go_returns
   have h1 := H.out.set HX.out 4 (by omega) ⟨x.power, x.idle, x.way, x.since, wrap64 (x.steps + 1), x.busy⟩ (.int .i64 (wrap64 (x.steps + 1))) rfl
   have h2 := h1.set (get_set HI.out) 5 (by omega) ⟨x.power, x.idle, x.way, x.since, wrap64 (x.steps + 1), wrap64 (x.busy + 1)⟩ (.int .i64 (wrap64 (x.busy + 1))) rfl
   rw [set_set] at h2
   exact ⟨rfl, ⟨q, h2⟩, ((Ch.refl _ _).setCell (p := ⟨q, i * 6 + 4, none⟩) (fun _ => H.out.fq) _).setCell (p := ⟨q, i * 6 + 5, none⟩) (fun _ => H.out.fq) _, by simp⟩
 ·have A := Hd (cfind_no w h cpu (may_no hm))
  rw [coreSet_no hm];have HT := Hd h;clear h hm
  cases b
  all_goals
   go_enter func120, ntmps120
   go_wp2_with fail;refine A.out.mono ?_;rintro e w1 ⟨rfl, rfl⟩;go_wp2;go_returns
   exact ⟨rfl, HT.out, Ch.refl _ _, rfl⟩
def takeF (c : Core) : Core × Int := (⟨c.power, c.idle, c.way, c.since, 0, 0⟩, 0)
def coreBusy (l : List Core) (cpu : Int) : Int := if mayF l.length cpu ≠ 0 then 0 else (l.getD cpu.toNat noCore).busy
def coreSteps (l : List Core) (cpu : Int) : Int := if mayF l.length cpu ≠ 0 then 0 else (l.getD cpu.toNat noCore).steps
theorem ctake_any (w : World) {l : List Core} (h : CoresAt w F p l) (cpu : Int) : Calls prog 209 #[.pointer (some ⟨p, 0, none⟩), .int .i64 cpu] w fun e w' => e = .returned (.tuple #[.int .i64 (coreBusy l cpu), .int .i64 (coreSteps l cpu), .int .i64 (coreSet l cpu takeF).2]) ∧ CoresAt w' F p (coreSet l cpu takeF).1 ∧ Ch F w w' ∧ w'.heap.size = w.heap.size := by
 unfold coreBusy coreSteps
 by_cases hm : mayF l.length cpu = 0
 ·obtain ⟨i, rfl, hi⟩ := may_yes hm
  obtain ⟨q, h⟩ := h
  have hx := getD_some (d := noCore) hi
  have A := Hd (cfind_yes w h i hi)
  rw [coreSet_yes hm, if_neg (by simp [hm]), if_neg (by simp [hm]), Int.toNat_natCast]
  have k4 := h.cell hx 4 (by omega)
  have k5 := h.cell hx 5 (by omega)
  have f4 : w.frozen? ⟨q, i * 6 + 4, none⟩ = false := h.row.frozen _
  have f5 : w.frozen? ⟨q, i * 6 + 5, none⟩ = false := h.row.frozen _
  have H := Hd h;have HX := Hd hx;have HI := Hd hi;clear hm h hx hi;generalize l.getD i noCore = x at *
  simp [coreL] at k4 k5
  go_enter func209, ntmps209
  go_wp2_with fail;refine A.out.mono ?_;rintro e w1 ⟨rfl, rfl⟩;go_wp2;go_quiet (fail);go_wp2
  refine bodyPost_ret (v := .tuple #[.int .i64 x.busy, .int .i64 x.steps, .int .i64 0]) (by simp [results, results209, go_sem]) rfl ?_
  have h0 : CoresAtQ (w.drewN nq) F p q l := ⟨H.out.head, H.out.row, H.out.fp, H.out.fq, H.out.ne, H.out.n0, H.out.n64⟩
  have h1 := h0.set HX.out 5 (by omega) ⟨x.power, x.idle, x.way, x.since, x.steps, 0⟩ (.int .i64 0) rfl
  have h2 := h1.set (get_set HI.out) 4 (by omega) ⟨x.power, x.idle, x.way, x.since, 0, 0⟩ (.int .i64 0) rfl
  rw [set_set] at h2
  exact ⟨rfl, ⟨q, h2⟩, (((Ch.refl _ _).drewN _).setCell (p := ⟨q, i * 6 + 5, none⟩) (fun _ => H.out.fq) _).setCell (p := ⟨q, i * 6 + 4, none⟩) (fun _ => H.out.fq) _, by simp⟩
 ·have A := Hd (cfind_no w h cpu (may_no hm))
  rw [coreSet_no hm, if_pos hm, if_pos hm];have HT := Hd h;clear h hm
  go_enter func209, ntmps209
  go_wp2_with fail;refine A.out.mono ?_;rintro e w1 ⟨rfl, rfl⟩;go_wp2
  refine bodyPost_ret (v := .tuple #[.int .i64 0, .int .i64 0, .int .i64 3]) (by simp [results, results209, go_sem]) rfl ?_
  exact ⟨rfl, HT.out, Ch.refl _ _, rfl⟩
theorem cup_any (w : World) {p q : Nat} {l : List Core} (h : CoresAtQ w F p q l) (i : Nat) (x : Core) (hx : l[i]? = some x) : Calls prog 188 #[.pointer (some ⟨q, i * 6, none⟩)] w fun e w' => e = .returned (.tuple #[]) ∧ CoresAtQ w' F p q (l.set i ⟨x.power, false, 0, 0, x.steps, x.busy⟩) ∧ Ch F w w' ∧ w'.heap.size = w.heap.size := by
 have hi : i < l.length := (List.getElem?_eq_some_iff.1 hx).1
 have k1 := h.cell hx 1 (by omega)
 have k2 := h.cell hx 2 (by omega)
 have k3 := h.cell hx 3 (by omega)
 have f1 : w.frozen? ⟨q, i * 6 + 1, none⟩ = false := h.row.frozen _
 have f2 : w.frozen? ⟨q, i * 6 + 2, none⟩ = false := h.row.frozen _
 have f3 : w.frozen? ⟨q, i * 6 + 3, none⟩ = false := h.row.frozen _
 have H := Hd h;have HX := Hd hx;have HI := Hd hi;clear h hx hi
 simp [coreL] at k1 k2 k3
 go_enter func188, ntmps188
 go_wp2;go_end0
 have h1 := H.out.set HX.out 1 (by omega) ⟨x.power, false, x.way, x.since, x.steps, x.busy⟩ (.bool false) rfl
 have h2 := h1.set (get_set HI.out) 2 (by omega) ⟨x.power, false, 0, x.since, x.steps, x.busy⟩ (.int .i64 0) rfl
 have h3 := h2.set (get_set (by rw [List.length_set]; exact HI.out)) 3 (by omega) ⟨x.power, false, 0, 0, x.steps, x.busy⟩ (.int .i64 0) rfl
 rw [set_set, set_set] at h3
 exact ⟨rfl, h3, (((Ch.refl _ _).setCell (p := ⟨q, i * 6 + 1, none⟩) (fun _ => H.out.fq) _).setCell (p := ⟨q, i * 6 + 2, none⟩) (fun _ => H.out.fq) _).setCell (p := ⟨q, i * 6 + 3, none⟩) (fun _ => H.out.fq) _, by simp⟩
def powerF (on : Bool) (c : Core) : Core × Int := if c.power = on then (c, 6) else (⟨on, false, 0, 0, c.steps, c.busy⟩, 0)
theorem cpower_any (w : World) {l : List Core} (h : CoresAt w F p l) (cpu : Int) (on : Bool) : Calls prog 311 #[.pointer (some ⟨p, 0, none⟩), .int .i64 cpu, .bool on] w fun e w' => e = .returned (.int .i64 (coreSet l cpu (powerF on)).2) ∧ CoresAt w' F p (coreSet l cpu (powerF on)).1 ∧ Ch F w w' ∧ w'.heap.size = w.heap.size := by
 by_cases hm : mayF l.length cpu = 0
 ·obtain ⟨i, rfl, hi⟩ := may_yes hm
  obtain ⟨q, h⟩ := h
  have hx := getD_some (d := noCore) hi
  have A := Hd (cfind_yes w h i hi);rw [coreSet_yes hm]
  have k0 := h.cell hx 0 (by omega)
  have f0 : w.frozen? ⟨q, i * 6, none⟩ = false := h.row.frozen _
  have H := Hd h;have HX := Hd hx;have HI := Hd hi
  have HS := Hd (set_same (d := noCore) hi)
  clear hm h hx hi;generalize l.getD i noCore = x at *;unfold powerF
  by_cases hp : x.power = on
  ·rw [if_pos hp]
   have hb : (x.power == on) = true := by simpa using hp
   have HP := Hd hp;clear hp
   simp [coreL] at k0
   go_enter func311, ntmps311
   go_wp2_with fail;refine A.out.mono ?_;rintro e w1 ⟨rfl, rfl⟩;go_wp2;go_returns
   exact ⟨rfl, by rw [HS.out]; exact ⟨q, H.out⟩, Ch.refl _ _, rfl⟩
  ·rw [if_neg hp]
   have hb : (x.power == on) = false := by simpa using hp
   simp [coreL] at k0
   clear hp
   go_enter func311, ntmps311
   go_wp2_with fail;refine A.out.mono ?_;rintro e w1 ⟨rfl, rfl⟩;go_wp2_with fail
   have h1 := H.out.set HX.out 0 (by omega) ⟨on, x.idle, x.way, x.since, x.steps, x.busy⟩ (.bool on) rfl
   refine (cup_any _ h1 i _ (get_set HI.out)).mono ?_
   rintro e w1 ⟨rfl, h2, hc, hs⟩;rw [set_set] at h2
   have HC := Hd (And.intro h2 (And.intro (((Ch.refl F w).setCell (p := ⟨q, i * 6 + 0, none⟩) (fun _ => H.out.fq) (.bool on)).trans hc) hs))
   clear h1 h2 hc hs;go_wp2;go_returns
   exact ⟨rfl, ⟨q, HC.out.1⟩, HC.out.2.1, by simpa using HC.out.2.2⟩
 ·have A := Hd (cfind_no w h cpu (may_no hm))
  rw [coreSet_no hm];have HT := Hd h;clear h hm
  go_enter func311, ntmps311
  go_wp2_with fail;refine A.out.mono ?_;rintro e w1 ⟨rfl, rfl⟩;go_wp2;go_returns
  exact ⟨rfl, HT.out, Ch.refl _ _, rfl⟩
def tickOk (n : Int) : Bool := decide (0 ≤ n ∧ n ≤ 1152921504606846976)
theorem tick_cases (n : Int) : (n < 0 ∧ tickOk n = false) ∨ (0 ≤ n ∧ 1152921504606846976 < n ∧ tickOk n = false) ∨ (0 ≤ n ∧ n ≤ 1152921504606846976 ∧ tickOk n = true) := by
 unfold tickOk
 rcases (by omega : n < 0 ∨ (0 ≤ n ∧ 1152921504606846976 < n) ∨ (0 ≤ n ∧ n ≤ 1152921504606846976)) with h | ⟨h, h2⟩ | ⟨h, h2⟩
 ·exact .inl ⟨h, decide_eq_false (by omega)⟩
 ·exact .inr (.inl ⟨h, h2, decide_eq_false (by omega)⟩)
 ·exact .inr (.inr ⟨h, h2, decide_eq_true ⟨h, h2⟩⟩)
theorem cright_any (w : World) (n : Int) : Calls prog 187 #[.int .i64 n] w fun e w' => e = .returned (.bool (tickOk n)) ∧ w = w' := by
 rcases tick_cases n with ⟨h, e⟩ | ⟨h, h2, e⟩ | ⟨h, h2, e⟩
 all_goals
  rw [e];clear e
  go_enter func187, ntmps187
  go_wp2;go_returns
  exact ⟨by first | rfl | (simp; omega), rfl⟩
def restF (way now : Int) (c : Core) : Core × Int :=
 if way < 0 ∨ 8 ≤ way ∨ tickOk now = false then (c, 2) else if c.power = false ∨ c.idle = true then (c, 6) else (⟨c.power, true, way, now, c.steps, c.busy⟩, 0)
theorem crest_any (w : World) {l : List Core} (h : CoresAt w F p l) (cpu way now : Int) : Calls prog 199 #[.pointer (some ⟨p, 0, none⟩), .int .i64 cpu, .int .i64 way, .int .i64 now] w fun e w' => e = .returned (.int .i64 (coreSet l cpu (restF way now)).2) ∧ CoresAt w' F p (coreSet l cpu (restF way now)).1 ∧ Ch F w w' ∧ w'.heap.size = w.heap.size := by
 by_cases hm : mayF l.length cpu = 0
 ·obtain ⟨i, rfl, hi⟩ := may_yes hm
  obtain ⟨q, h⟩ := h
  have hx := getD_some (d := noCore) hi
  have A := Hd (cfind_yes w h i hi);have R := Hd (fun w => cright_any w now);rw [coreSet_yes hm]
  have k0 := h.cell hx 0 (by omega)
  have k1 := h.cell hx 1 (by omega)
  have k2 := h.cell hx 2 (by omega)
  have k3 := h.cell hx 3 (by omega)
  have f1 : w.frozen? ⟨q, i * 6 + 1, none⟩ = false := h.row.frozen _
  have f2 : w.frozen? ⟨q, i * 6 + 2, none⟩ = false := h.row.frozen _
  have f3 : w.frozen? ⟨q, i * 6 + 3, none⟩ = false := h.row.frozen _
  have H := Hd h;have HX := Hd hx;have HI := Hd hi
  have HS := Hd (set_same (d := noCore) hi)
  clear hm h hx hi;generalize l.getD i noCore = x at *;unfold restF;generalize tickOk now = ok at *
  simp [coreL] at k0 k1 k2 k3
  rcases (by omega : way < 0 ∨ (0 ≤ way ∧ 8 ≤ way) ∨ (0 ≤ way ∧ way < 8)) with hw | ⟨hw, hw2⟩ | ⟨hw, hw2⟩
  ·rw [if_pos (.inl hw)]
   go_enter func199, ntmps199
   go_wp2_with fail;refine A.out.mono ?_;rintro e w1 ⟨rfl, rfl⟩;go_wp2;go_returns
   exact ⟨rfl, by rw [HS.out]; exact ⟨q, H.out⟩, Ch.refl _ _, rfl⟩
  ·rw [if_pos (.inr (.inl hw2))]
   go_enter func199, ntmps199
   go_wp2_with fail;refine A.out.mono ?_;rintro e w1 ⟨rfl, rfl⟩;go_wp2;go_returns
   exact ⟨rfl, by rw [HS.out]; exact ⟨q, H.out⟩, Ch.refl _ _, rfl⟩
  ·cases ok with
   | false =>
    rw [if_pos (.inr (.inr rfl))]
    go_enter func199, ntmps199
    go_wp2_with fail;refine A.out.mono ?_;rintro e w1 ⟨rfl, rfl⟩;go_wp2_with fail;refine (R.out _).mono ?_;rintro e w1 ⟨rfl, rfl⟩;go_wp2;go_returns
    exact ⟨rfl, by rw [HS.out]; exact ⟨q, H.out⟩, Ch.refl _ _, rfl⟩
   | true =>
    rw [if_neg (by simp; omega)]
    cases hp : x.power with
    | false =>
     rw [if_pos (.inl rfl)];rw [hp] at k0;clear hp
     go_enter func199, ntmps199
     go_wp2_with fail;refine A.out.mono ?_;rintro e w1 ⟨rfl, rfl⟩;go_wp2_with fail;refine (R.out _).mono ?_;rintro e w1 ⟨rfl, rfl⟩;go_wp2;go_returns
     exact ⟨rfl, by rw [HS.out]; exact ⟨q, H.out⟩, Ch.refl _ _, rfl⟩
    | true =>
     rw [hp] at k0;replace hp := Hd hp
     cases hd : x.idle with
     | true =>
      rw [if_pos (.inr rfl)];rw [hd] at k1;clear hd
      go_enter func199, ntmps199
      go_wp2_with fail;refine A.out.mono ?_;rintro e w1 ⟨rfl, rfl⟩;go_wp2_with fail;refine (R.out _).mono ?_;rintro e w1 ⟨rfl, rfl⟩;go_wp2;go_returns
      exact ⟨rfl, by rw [HS.out]; exact ⟨q, H.out⟩, Ch.refl _ _, rfl⟩
     | false =>
      rw [if_neg (by simp)];rw [hd] at k1;replace hd := Hd hd
      go_enter func199, ntmps199
      go_wp2_with fail;refine A.out.mono ?_;rintro e w1 ⟨rfl, rfl⟩;go_wp2_with fail;refine (R.out _).mono ?_;rintro e w1 ⟨rfl, rfl⟩;go_wp2;go_returns
      have h1 := H.out.set HX.out 1 (by omega) ⟨x.power, true, x.way, x.since, x.steps, x.busy⟩ (.bool true) rfl
      have h2 := h1.set (get_set HI.out) 2 (by omega) ⟨x.power, true, way, x.since, x.steps, x.busy⟩ (.int .i64 way) rfl
      have h3 := h2.set (get_set (by rw [List.length_set]; exact HI.out)) 3 (by omega) ⟨x.power, true, way, now, x.steps, x.busy⟩ (.int .i64 now) rfl
      rw [set_set, set_set, hp.out] at h3
      exact ⟨rfl, ⟨q, h3⟩, (((Ch.refl _ _).setCell (p := ⟨q, i * 6 + 1, none⟩) (fun _ => H.out.fq) _).setCell (p := ⟨q, i * 6 + 2, none⟩) (fun _ => H.out.fq) _).setCell (p := ⟨q, i * 6 + 3, none⟩) (fun _ => H.out.fq) _, by simp⟩
 ·have A := Hd (cfind_no w h cpu (may_no hm))
  rw [coreSet_no hm];have HT := Hd h;clear h hm
  go_enter func199, ntmps199
  go_wp2_with fail;refine A.out.mono ?_;rintro e w1 ⟨rfl, rfl⟩;go_wp2;go_returns
  exact ⟨rfl, HT.out, Ch.refl _ _, rfl⟩
theorem max2_int (k k' : IntKind) (x y : Int) : Builtin.max2 (.int k x) (.int k' y) = pure (.int k (if x < y then y else x)) := by simp only [Builtin.max2, gt_iff_lt]
theorem max_two (ats : Array TypeId) (ty : TypeId) (a b : Value) : Builtin.max_ ats ty #[a, b] = (Builtin.max2 a b >>= fun s => pure s) := by simp only [Builtin.max_, List.foldlM_cons, List.foldlM_nil]
theorem min2_int (k k' : IntKind) (x y : Int) : Builtin.min2 (.int k x) (.int k' y) = pure (.int k (if y < x then y else x)) := by simp only [Builtin.min2]
theorem min_two (ats : Array TypeId) (ty : TypeId) (a b : Value) : Builtin.min_ ats ty #[a, b] = (Builtin.min2 a b >>= fun s => pure s) := by simp only [Builtin.min_, List.foldlM_cons, List.foldlM_nil]
def wakeF (now : Int) (c : Core) : Core × Int := if tickOk now = false then (c, 2) else if c.idle = false then (c, 6) else (⟨c.power, false, 0, 0, c.steps, c.busy⟩, 0)
theorem cwake_any (w : World) {l : List Core} (h : CoresAt w F p l) (cpu now : Int) : Calls prog 121 #[.pointer (some ⟨p, 0, none⟩), .int .i64 cpu, .int .i64 now] w fun e w' => (∃ n, e = .returned (.tuple #[.int .i64 n, .int .i64 (coreSet l cpu (wakeF now)).2])) ∧ CoresAt w' F p (coreSet l cpu (wakeF now)).1 ∧ Ch F w w' ∧ w'.heap.size = w.heap.size := by
 by_cases hm : mayF l.length cpu = 0
 ·obtain ⟨i, rfl, hi⟩ := may_yes hm
  obtain ⟨q, h⟩ := h
  have hx := getD_some (d := noCore) hi
  have A := Hd (cfind_yes w h i hi);have R := Hd (fun w => cright_any w now);rw [coreSet_yes hm]
  have k1 := h.cell hx 1 (by omega)
  have k3 := h.cell hx 3 (by omega)
  have H := Hd h;have HX := Hd hx;have HI := Hd hi
  have HS := Hd (set_same (d := noCore) hi)
  have U := Hd (cup_any w h i _ hx);clear hm h hx hi;generalize l.getD i noCore = x at *;unfold wakeF;generalize tickOk now = ok at *
  simp [coreL] at k1 k3
  cases ok with
  | false =>
   rw [if_pos rfl]
   go_enter func121, ntmps121
   go_wp2_with fail;refine A.out.mono ?_;rintro e w1 ⟨rfl, rfl⟩;go_wp2_with fail;refine (R.out _).mono ?_;rintro e w1 ⟨rfl, rfl⟩;go_wp2;go_returns
   exact ⟨⟨_, rfl⟩, by rw [HS.out]; exact ⟨q, H.out⟩, Ch.refl _ _, rfl⟩
  | true =>
   rw [if_neg (by simp)]
   cases hd : x.idle with
   | false =>
    rw [if_pos rfl];rw [hd] at k1;clear hd
    go_enter func121, ntmps121
    go_wp2_with fail;refine A.out.mono ?_;rintro e w1 ⟨rfl, rfl⟩;go_wp2_with fail;refine (R.out _).mono ?_;rintro e w1 ⟨rfl, rfl⟩;go_wp2;go_returns
    exact ⟨⟨_, rfl⟩, by rw [HS.out]; exact ⟨q, H.out⟩, Ch.refl _ _, rfl⟩
   | true =>
    rw [if_neg (by simp)];rw [hd] at k1;clear hd
    have hmax := fun ats ty a b => max_two ats ty a b
    have hm2 := fun k k' x y => max2_int k k' x y
    go_enter func121, ntmps121
    go_wp2_with fail;refine A.out.mono ?_;rintro e w1 ⟨rfl, rfl⟩;go_wp2_with fail;refine (R.out _).mono ?_;rintro e w1 ⟨rfl, rfl⟩;go_wp2_with fail;refine U.out.mono ?_;rintro e w1 ⟨rfl, h2, hc, hs⟩
    have HC := Hd (And.intro h2 (And.intro hc hs))
    clear h2 hc hs;go_wp2
    all_goals
     go_returns
     exact ⟨⟨_, rfl⟩, ⟨q, HC.out.1⟩, HC.out.2⟩
 ·have A := Hd (cfind_no w h cpu (may_no hm))
  rw [coreSet_no hm];have HT := Hd h;clear h hm
  go_enter func121, ntmps121
  go_wp2_with fail;refine A.out.mono ?_;rintro e w1 ⟨rfl, rfl⟩;go_wp2;go_returns
  exact ⟨⟨_, rfl⟩, HT.out, Ch.refl _ _, rfl⟩
section
def wants (s h t a c i m k d : Bool) : Int :=
 if s then 2 else if t then 3 else if h || !a then 0 else if c then 4 else if i then 5 else if m then 6 else if k then 7 else if d then 8 else 9
theorem idx0 (x0 x1 x2 x3 x4 x5 x6 x7 : Bool) (w : World) : (Instr.index 338 (.agg #[.bool x0, .int .i64 2, .bool x1, .int .i64 3, .bool x2, .int .i64 0, .bool x3, .int .i64 4, .bool x4, .int .i64 5, .bool x5, .int .i64 6, .bool x6, .int .i64 7, .bool x7, .int .i64 8]) (.int .i64 0)).run prog w = .ok (.agg #[.bool x0, .int .i64 2]) w := by kernel_rfl
theorem idx1 (x0 x1 x2 x3 x4 x5 x6 x7 : Bool) (w : World) : (Instr.index 338 (.agg #[.bool x0, .int .i64 2, .bool x1, .int .i64 3, .bool x2, .int .i64 0, .bool x3, .int .i64 4, .bool x4, .int .i64 5, .bool x5, .int .i64 6, .bool x6, .int .i64 7, .bool x7, .int .i64 8]) (.int .i64 1)).run prog w = .ok (.agg #[.bool x1, .int .i64 3]) w := by kernel_rfl
theorem idx2 (x0 x1 x2 x3 x4 x5 x6 x7 : Bool) (w : World) : (Instr.index 338 (.agg #[.bool x0, .int .i64 2, .bool x1, .int .i64 3, .bool x2, .int .i64 0, .bool x3, .int .i64 4, .bool x4, .int .i64 5, .bool x5, .int .i64 6, .bool x6, .int .i64 7, .bool x7, .int .i64 8]) (.int .i64 2)).run prog w = .ok (.agg #[.bool x2, .int .i64 0]) w := by kernel_rfl
theorem idx3 (x0 x1 x2 x3 x4 x5 x6 x7 : Bool) (w : World) : (Instr.index 338 (.agg #[.bool x0, .int .i64 2, .bool x1, .int .i64 3, .bool x2, .int .i64 0, .bool x3, .int .i64 4, .bool x4, .int .i64 5, .bool x5, .int .i64 6, .bool x6, .int .i64 7, .bool x7, .int .i64 8]) (.int .i64 3)).run prog w = .ok (.agg #[.bool x3, .int .i64 4]) w := by kernel_rfl
theorem idx4 (x0 x1 x2 x3 x4 x5 x6 x7 : Bool) (w : World) : (Instr.index 338 (.agg #[.bool x0, .int .i64 2, .bool x1, .int .i64 3, .bool x2, .int .i64 0, .bool x3, .int .i64 4, .bool x4, .int .i64 5, .bool x5, .int .i64 6, .bool x6, .int .i64 7, .bool x7, .int .i64 8]) (.int .i64 4)).run prog w = .ok (.agg #[.bool x4, .int .i64 5]) w := by kernel_rfl
theorem idx5 (x0 x1 x2 x3 x4 x5 x6 x7 : Bool) (w : World) : (Instr.index 338 (.agg #[.bool x0, .int .i64 2, .bool x1, .int .i64 3, .bool x2, .int .i64 0, .bool x3, .int .i64 4, .bool x4, .int .i64 5, .bool x5, .int .i64 6, .bool x6, .int .i64 7, .bool x7, .int .i64 8]) (.int .i64 5)).run prog w = .ok (.agg #[.bool x5, .int .i64 6]) w := by kernel_rfl
theorem idx6 (x0 x1 x2 x3 x4 x5 x6 x7 : Bool) (w : World) : (Instr.index 338 (.agg #[.bool x0, .int .i64 2, .bool x1, .int .i64 3, .bool x2, .int .i64 0, .bool x3, .int .i64 4, .bool x4, .int .i64 5, .bool x5, .int .i64 6, .bool x6, .int .i64 7, .bool x7, .int .i64 8]) (.int .i64 6)).run prog w = .ok (.agg #[.bool x6, .int .i64 7]) w := by kernel_rfl
theorem idx7 (x0 x1 x2 x3 x4 x5 x6 x7 : Bool) (w : World) : (Instr.index 338 (.agg #[.bool x0, .int .i64 2, .bool x1, .int .i64 3, .bool x2, .int .i64 0, .bool x3, .int .i64 4, .bool x4, .int .i64 5, .bool x5, .int .i64 6, .bool x6, .int .i64 7, .bool x7, .int .i64 8]) (.int .i64 7)).run prog w = .ok (.agg #[.bool x7, .int .i64 8]) w := by kernel_rfl
attribute [local go_sem] idx0 idx1 idx2 idx3 idx4 idx5 idx6 idx7
theorem wants_any (s h t a c i m k d : Bool) (w : World) :
  Calls prog 185 #[.agg #[.bool s, .bool h, .bool t, .bool a, .bool c, .bool i, .bool m, .bool k, .bool d]] w fun e w' => e = .returned (.int .i64 (wants s h t a c i m k d)) ∧ Below w.heap.size w w' := by
 cases h <;> cases a
 all_goals
  go_enter func185, ntmps185
  go_wp2
  go_rounds 9
  all_goals
   go_returns
   exact ⟨by simp [wants, *], by go_grown⟩
theorem bcell {W w1 : World} (hb : Below W.heap.size W w1) : (∀ b o, b < W.heap.size → w1.cell? ⟨b, o, none⟩ = W.cell? ⟨b, o, none⟩) ∧ (∀ b o, b < W.heap.size → w1.frozen? ⟨b, o, none⟩ = W.frozen? ⟨b, o, none⟩) :=
 ⟨fun b o h => hb.cell (p := ⟨b, o, none⟩) h, fun b o h => hb.frozen (p := ⟨b, o, none⟩) h⟩
def coreNext (p idle : Bool) (what : Int) : Int := if !p then 0 else if !idle then what else if what = 0 ∨ what = 9 then 0 else 1
theorem cnext_any (p idle : Bool) (way since steps busy : Int) (s h t a c i m k d : Bool) (w : World) :
  Calls prog 118 #[.agg #[.bool p, .bool idle, .int .i64 way, .int .i64 since, .int .i64 steps, .int .i64 busy], .agg #[.bool s, .bool h, .bool t, .bool a, .bool c, .bool i, .bool m, .bool k, .bool d]] w
   fun e w' => e = .returned (.int .i64 (coreNext p idle (wants s h t a c i m k d))) ∧ Below w.heap.size w w' := by
 go_enter func118, ntmps118
 go_wp2_with fail;refine (wants_any _ _ _ _ _ _ _ _ _ _).mono ?_;rintro e w1 ⟨rfl, hb⟩
 obtain ⟨hc, hf⟩ := bcell hb
 generalize hx : wants s h t a c i m k d = x;have HX := Hd hx;clear hx
 have hB : Below w.heap.size w w1 := (((Below.refl _ _).alloc (Nat.le_refl _) _).alloc (by simp only [World.size_alloc]; omega) _).trans (hb.mono (by simp only [World.size_alloc]; omega))
 have hcase : x = 0 ∨ x = 9 ∨ ((x == 0) = false ∧ (x == 9) = false) := by simp only [beq_eq_false_iff_ne]; omega
 rcases hcase with rfl | rfl | ⟨h0, h9⟩
 all_goals
  cases p <;> cases idle
  all_goals
   go_wp2;go_returns
   exact ⟨by rw [HX.out]; simp [coreNext] <;> exact ⟨by simpa using h0, by simpa using h9⟩, by go_grown⟩
end
theorem noPower (n : Nat) : (List.replicate n (⟨false, false, 0, 0, 0, 0⟩ : Core)).flatMap coreL = (madeCells #[.bool false, .bool false, .int .i64 0, .int .i64 0, .int .i64 0, .int .i64 0] (n * 6)).toList := by
 apply List.ext_getElem?
 intro k
 by_cases hk : k < n * 6
 ·have hi : k / 6 < n := by omega
  have := flat_get coreL_len (List.replicate n (⟨false, false, 0, 0, 0, 0⟩ : Core)) (k / 6) (k % 6) ⟨false, false, 0, 0, 0, 0⟩ (by simp [hi]) (Nat.mod_lt _ (by omega))
  rw [show k / 6 * 6 + k % 6 = k by omega] at this;rw [this]
  have hm : k % 6 < 6 := Nat.mod_lt _ (by omega)
  simp only [madeCells, Array.toList_map, Array.toList_range, List.getElem?_map, List.getElem?_range hk, Option.map_some]
  generalize k % 6 = r at *
  rcases (by omega : r = 0 ∨ r = 1 ∨ r = 2 ∨ r = 3 ∨ r = 4 ∨ r = 5) with rfl | rfl | rfl | rfl | rfl | rfl <;> rfl
 ·rw [List.getElem?_eq_none (by rw [flat_len coreL_len]; simpa using hk), List.getElem?_eq_none (by simp [madeCells]; omega)]
theorem coreZero : (prog.info? 32).map (fun i => (i.zero, i.size, i.bytes)) = some (some (.agg #[.bool false, .bool false, .int .i64 0, .int .i64 0, .int .i64 0, .int .i64 0]), 6, 40) := by kernel_rfl
def onCore : Core := ⟨true, false, 0, 0, 0, 0⟩
def someOn (k n : Nat) : List Core := List.replicate k onCore ++ List.replicate (n - k) noCore
theorem someOn_len {k n : Nat} (h : k ≤ n) : (someOn k n).length = n := by simp [someOn]; omega
theorem someOn_get {k n : Nat} (h : k < n) : (someOn k n)[k]? = some noCore := by
 unfold someOn;rw [List.getElem?_append_right (by simp), List.length_replicate, Nat.sub_self, show n - k = (n - (k + 1)) + 1 by omega, List.replicate_succ]
 rfl
theorem someOn_set {k n : Nat} (h : k < n) : (someOn k n).set k onCore = someOn (k + 1) n := by
 unfold someOn;rw [List.set_append_right _ _ (by simp), List.length_replicate, Nat.sub_self, show n - k = (n - (k + 1)) + 1 by omega, List.replicate_succ, List.set_cons_zero, List.replicate_succ' (n := k)]
 simp
theorem someOn_all (n : Nat) : someOn n n = List.replicate n onCore := by simp [someOn]
theorem cnew_any (w : World) (cpus : Nat) (h1 : 1 ≤ cpus) (h64 : cpus ≤ 64) : Calls prog 70 #[.int .i64 cpus] w fun e w' => (∃ p, e = .returned (.tuple #[.pointer (some ⟨p, 0, none⟩), .int .i64 0]) ∧ CoresAt w' (Plus w w' (fun _ => False)) p (List.replicate cpus onCore)) ∧ Below w.heap.size w w' := by
 have hmk := fun W => make_any coreZero underlying237 (by omega) cpus (by omega) W
 go_enter func70, ntmps70
 go_wp2
 have H0 : CoresAtQ ((w.alloc (.cells (madeCells (Value.agg #[.bool false, .bool false, .int .i64 0, .int .i64 0, .int .i64 0, .int .i64 0]).cells (cpus * 6)) 32)).alloc (.cells #[.slice (some ⟨w.heap.size, 0, none⟩) cpus cpus] 239)) (New w) (w.heap.size + 1) w.heap.size (someOn 0 cpus) := by
  refine ⟨by rw [someOn_len (by omega)]; exact Blk.at _ _ (by simp), ?_, by unfold New; omega, Nat.le_refl _, by omega, by rw [someOn_len (by omega)]; exact h1, by rw [someOn_len (by omega)]; exact h64⟩
  have e : (someOn 0 cpus).flatMap coreL = (madeCells #[.bool false, .bool false, .int .i64 0, .int .i64 0, .int .i64 0, .int .i64 0] (cpus * 6)).toList := noPower cpus
  rw [e]
  exact (Blk.new _ _ _).alloc _
 have HB0 : Below w.heap.size w ((w.alloc (.cells (madeCells (Value.agg #[.bool false, .bool false, .int .i64 0, .int .i64 0, .int .i64 0, .int .i64 0]).cells (cpus * 6)) 32)).alloc (.cells #[.slice (some ⟨w.heap.size, 0, none⟩) cpus cpus] 239)) := ((Below.refl _ _).alloc (Nat.le_refl _) _).alloc (by simp) _
 have HZ0 : w.heap.size + 1 < ((w.alloc (.cells (madeCells (Value.agg #[.bool false, .bool false, .int .i64 0, .int .i64 0, .int .i64 0, .int .i64 0]).cells (cpus * 6)) 32)).alloc (.cells #[.slice (some ⟨w.heap.size, 0, none⟩) cpus cpus] 239)).heap.size := by simp
 replace H0 := Hd H0;replace HB0 := Hd HB0;clear hmk
 go_loopw [21, 5] (fun iv _ wr => ∃ k : Nat, iv = .int .i64 k ∧ k ≤ cpus ∧ Hid (CoresAtQ wr (New w) (w.heap.size + 1) w.heap.size (someOn k cpus)) ∧ Hid (Below w.heap.size w wr)) (fun iv _ _ => cpus - (intOf iv).toNat)
 case atStart => exact ⟨0, rfl, by omega, H0, HB0⟩
 case round =>
  obtain ⟨k, rfl, hk, H, HB⟩ := hrel
  by_cases hlt : k < cpus
  ·have c0 : wr.cell? ⟨w.heap.size + 1, 0, none⟩ = some (.slice (some ⟨w.heap.size, 0, none⟩) cpus cpus) := by have := H.out.head.cell 0; rw [someOn_len hk] at this; exact this
   have k0 := H.out.cell (someOn_get hlt) 0 (by omega)
   have f0 : wr.frozen? ⟨w.heap.size, k * 6, none⟩ = false := H.out.row.frozen _
   simp [coreL, noCore] at k0
   go_wp2
   have h2 := H.out.set (someOn_get hlt) 0 (by omega) onCore (.bool true) rfl
   rw [someOn_set hlt] at h2;replace h2 := Hd h2;go_roundw
   case rel => exact ⟨k + 1, by go_num, hlt, h2, Hd (HB.out.setCell (p := ⟨w.heap.size, k * 6 + 0, none⟩) (Nat.le_refl _) _)⟩
   case measure => simp [intOf]; omega
  ·have : k = cpus := by omega
   subst this;go_wp2;go_returns;have H2 := H.out;rw [someOn_all] at H2;have hz := H2.head.lt
   exact ⟨⟨_, rfl, w.heap.size, H2.head, H2.row, .inr ⟨by omega, hz⟩, .inr ⟨Nat.le_refl _, H2.row.lt⟩, H2.ne, H2.n0, H2.n64⟩, HB.out⟩
structure Stop where
 who : Nat
 held : Nat
structure StopAt (w : World) (F : Nat → Prop) (p : Nat) (s : Stop) : Prop where
 head : Blk w p #[.int .u64 s.who, .int .u64 s.held] 142
 fp : F p
 lw : s.who < top64
 lh : s.held < top64
theorem StopAt.ch {F G : Nat → Prop} {s : Stop} (h : StopAt w F p s) (hc : Ch G w w') (hd : ∀ b, F b → ¬ G b) : StopAt w' F p s := ⟨h.head.ch hc (hd _ h.fp), h.fp, h.lw, h.lh⟩
theorem StopAt.mono {F G : Nat → Prop} {s : Stop} (h : StopAt w F p s) (hd : ∀ b, F b → G b) : StopAt w G p s := ⟨h.head, hd _ h.fp, h.lw, h.lh⟩
theorem StopAt.below {s : Stop} (h : StopAt w F p s) (hb : Below w.heap.size w w') : StopAt w' F p s := h.ch (Ch.off hb) (fun _ _ h => h)
theorem StopAt.two {s : Stop} (h : StopAt w F p s) {a b : Nat} (ha : a < top64) (hb : b < top64) : StopAt ((w.setCell ⟨p, 0, none⟩ (.int .u64 a)).setCell ⟨p, 1, none⟩ (.int .u64 b)) F p ⟨a, b⟩ := ⟨(h.head.set 0 _).set 1 _, h.fp, ha, hb⟩
def stopLeft (s : Stop) : Nat := notF s.who s.held
theorem sleft_any (w : World) {s : Stop} (h : StopAt w F p s) : Calls prog 101 #[.pointer (some ⟨p, 0, none⟩)] w fun e w' => e = .returned (.int .u64 (stopLeft s : Nat)) ∧ ∃ n, w' = w.drewN n := by
 have c0 : w.cell? ⟨p, 0, none⟩ = some (.int .u64 s.who) := h.head.cell 0
 have c1 : w.cell? ⟨p, 1, none⟩ = some (.int .u64 s.held) := h.head.cell 1
 have A := Hd (fun w => not_any s.who s.held h.lw h.lh w);unfold stopLeft;clear h;generalize notF s.who s.held = x at *
 go_enter func101, ntmps101
 go_wp2
 go_quiet ((go_at_call 181; exact quiet_left (A.out _)))
 go_wp2;go_returns
 exact ⟨rfl, _, rfl⟩
def stopMust (s : Stop) (cpu : Int) : Bool := hasF (stopLeft s) cpu
theorem smust_any (w : World) {s : Stop} (h : StopAt w F p s) (cpu : Int) : Calls prog 33 #[.pointer (some ⟨p, 0, none⟩), .int .i64 cpu] w fun e w' => e = .returned (.bool (stopMust s cpu)) ∧ ∃ n, w' = w.drewN n := by
 have A := Hd (sleft_any w h)
 have B := Hd (fun w => has_any (stopLeft s) (notF_lt _ _ h.lw) cpu w)
 unfold stopMust;clear h;generalize stopLeft s = x at *;generalize hasF x cpu = y at *
 go_enter func33, ntmps33
 go_wp2_with fail;refine A.out.mono ?_;rintro e w1 ⟨rfl, n, rfl⟩;go_wp2_with fail;refine (B.out _).mono ?_;rintro e w1 ⟨rfl, rfl⟩;go_wp2;go_returns
 exact ⟨rfl, _, rfl⟩
theorem sheld_any (w : World) {s : Stop} (h : StopAt w F p s) (cpu : Int) : Calls prog 20 #[.pointer (some ⟨p, 0, none⟩), .int .i64 cpu] w fun e w' => e = .returned (.bool (hasF s.held cpu)) ∧ w = w' := by
 have c1 : w.cell? ⟨p, 1, none⟩ = some (.int .u64 s.held) := h.head.cell 1
 have B := Hd (fun w => has_any s.held h.lh cpu w);clear h;generalize hasF s.held cpu = y at *
 go_enter func20, ntmps20
 go_wp2_with fail;refine (B.out _).mono ?_;rintro e w1 ⟨rfl, rfl⟩;go_wp2;go_returns
 exact ⟨rfl, rfl⟩
def stopOn (s : Stop) : Bool := s.who != 0
theorem son_any (w : World) {s : Stop} (h : StopAt w F p s) : Calls prog 351 #[.pointer (some ⟨p, 0, none⟩)] w fun e w' => e = .returned (.bool (stopOn s)) ∧ w = w' := by
 have c0 : w.cell? ⟨p, 0, none⟩ = some (.int .u64 s.who) := h.head.cell 0
 have HB : Hid (stopOn s = ((s.who : Int) != 0)) := Hd (by unfold stopOn; rw [Bool.eq_iff_iff]; simp)
 clear h;rw [HB.out]
 go_enter func351, ntmps351
 go_wp2;go_returns
 exact ⟨rfl, rfl⟩
def stopAck (s : Stop) (cpu : Int) : Stop × Int := if stopMust s cpu then (⟨s.who, s.held ||| oneF cpu⟩, 0) else (s, 6)
theorem sack_any (w : World) {s : Stop} (h : StopAt w F p s) (hF : ∀ b, F b → b < w.heap.size) (cpu : Int) : Calls prog 122 #[.pointer (some ⟨p, 0, none⟩), .int .i64 cpu] w fun e w' => e = .returned (.int .i64 (stopAck s cpu).2) ∧ StopAt w' F p (stopAck s cpu).1 ∧ Ch F w w' := by
 have A := Hd (smust_any w h cpu)
 have c1 : w.cell? ⟨p, 1, none⟩ = some (.int .u64 s.held) := h.head.cell 1
 have f1 : w.frozen? ⟨p, 1, none⟩ = false := h.head.frozen 1
 have hlt := h.head.lt;have HT := Hd h;unfold stopAck
 cases hm : stopMust s cpu with
 | false =>
  rw [if_neg (by simp)];rw [hm] at A;clear hm h
  go_enter func122, ntmps122
  go_wp2_with fail;refine A.out.mono ?_;rintro e w1 ⟨rfl, n, rfl⟩;go_wp2;go_returns
  exact ⟨rfl, HT.out.below (belowN _ _), (Ch.refl _ _).drewN _⟩
 | true =>
  rw [if_pos rfl];rw [hm] at A;have B := Hd (fun w b cap hc => with_one s.held h.lh cpu w b cap hc)
  have hx : s.held ||| oneF cpu < top64 := Nat.or_lt_two_pow (n := 64) h.lh (oneF_lt _)
  clear hm h;generalize s.held ||| oneF cpu = x at *
  go_enter func122, ntmps122
  go_wp2_with fail;refine A.out.mono ?_;rintro e w1 ⟨rfl, n, rfl⟩;go_wp2_with fail
  refine (B.out _ _ _ (cell_at1 _ _ rfl)).mono ?_
  rintro e w1 ⟨rfl, rfl⟩
  have f1' := ((HT.out.head.drewN n).alloc (.cells #[.int .i64 cpu] 3)).frozen 1
  have c1' : ((w.drewN n).alloc (.cells #[.int .i64 cpu] 3)).cell? ⟨p, 1, none⟩ = some (.int .u64 s.held) := ((HT.out.head.drewN n).alloc (.cells #[.int .i64 cpu] 3)).cell 1
  go_wp2;go_returns
  refine ⟨rfl, ⟨((HT.out.head.drewN n).alloc _).set 1 _, HT.out.fp, HT.out.lw, hx⟩, (((Ch.refl F w).drewN n).alloc _).setCell (p := ⟨p, 1, none⟩) (fun _ => HT.out.fp) _⟩
def stopBegin (s : Stop) (m : Nat) : Stop × Int := if stopOn s then (s, 7) else if m = 0 then (s, 2) else (⟨m, 0⟩, 0)
theorem sbegin_any (w : World) {s : Stop} (h : StopAt w F p s) (m : Nat) (hm : m < top64) : Calls prog 352 #[.pointer (some ⟨p, 0, none⟩), .int .u64 m] w fun e w' => e = .returned (.int .i64 (stopBegin s m).2) ∧ StopAt w' F p (stopBegin s m).1 ∧ Ch F w w' ∧ w'.heap.size = w.heap.size := by
 have A := Hd (son_any w h)
 have c0 : w.cell? ⟨p, 0, none⟩ = some (.int .u64 s.who) := h.head.cell 0
 have c1 : w.cell? ⟨p, 1, none⟩ = some (.int .u64 s.held) := h.head.cell 1
 have f0 : w.frozen? ⟨p, 0, none⟩ = false := h.head.frozen 0
 have f1 : w.frozen? ⟨p, 1, none⟩ = false := h.head.frozen 1
 have HT := Hd h;clear h;unfold stopBegin;generalize stopOn s = on at *
 cases on with
 | true =>
  rw [if_pos rfl]
  go_enter func352, ntmps352
  go_wp2_with fail;refine A.out.mono ?_;rintro e w1 ⟨rfl, rfl⟩;go_wp2;go_returns
  exact ⟨rfl, HT.out, Ch.refl _ _, rfl⟩
 | false =>
  rw [if_neg (by simp)]
  by_cases h0 : m = 0
  ·subst h0
   rw [if_pos rfl]
   go_enter func352, ntmps352
   go_wp2_with fail;refine A.out.mono ?_;rintro e w1 ⟨rfl, rfl⟩;go_wp2;go_returns
   exact ⟨rfl, HT.out, Ch.refl _ _, rfl⟩
  ·rw [if_neg h0]
   have hb : ((m : Int) == 0) = false := by simpa using h0
   clear h0
   go_enter func352, ntmps352
   go_wp2_with fail;refine A.out.mono ?_;rintro e w1 ⟨rfl, rfl⟩;go_wp2;go_returns
   exact ⟨rfl, HT.out.two hm (by decide), ((Ch.refl _ _).setCell (p := ⟨p, 0, none⟩) (fun _ => HT.out.fp) _).setCell (p := ⟨p, 1, none⟩) (fun _ => HT.out.fp) _, by simp⟩
def stopFree (s : Stop) : Stop × Int := if stopOn s then (⟨0, 0⟩, 0) else (s, 6)
theorem sfree_any (w : World) {s : Stop} (h : StopAt w F p s) : Calls prog 354 #[.pointer (some ⟨p, 0, none⟩)] w fun e w' => e = .returned (.int .i64 (stopFree s).2) ∧ StopAt w' F p (stopFree s).1 ∧ Ch F w w' ∧ w'.heap.size = w.heap.size := by
 have A := Hd (son_any w h)
 have c0 : w.cell? ⟨p, 0, none⟩ = some (.int .u64 s.who) := h.head.cell 0
 have c1 : w.cell? ⟨p, 1, none⟩ = some (.int .u64 s.held) := h.head.cell 1
 have f0 : w.frozen? ⟨p, 0, none⟩ = false := h.head.frozen 0
 have f1 : w.frozen? ⟨p, 1, none⟩ = false := h.head.frozen 1
 have HT := Hd h;clear h;unfold stopFree;generalize stopOn s = on at *
 cases on with
 | true =>
  rw [if_pos rfl]
  go_enter func354, ntmps354
  go_wp2_with fail;refine A.out.mono ?_;rintro e w1 ⟨rfl, rfl⟩;go_wp2;go_returns
  exact ⟨rfl, HT.out.two (by decide) (by decide), ((Ch.refl _ _).setCell (p := ⟨p, 0, none⟩) (fun _ => HT.out.fp) _).setCell (p := ⟨p, 1, none⟩) (fun _ => HT.out.fp) _, by simp⟩
 | false =>
  rw [if_neg (by simp)]
  go_enter func354, ntmps354
  go_wp2_with fail;refine A.out.mono ?_;rintro e w1 ⟨rfl, rfl⟩;go_wp2;go_returns
  exact ⟨rfl, HT.out, Ch.refl _ _, rfl⟩
def stopReady (s : Stop) : Bool := stopOn s && stopLeft s == 0
theorem sready_any (w : World) {s : Stop} (h : StopAt w F p s) : Calls prog 353 #[.pointer (some ⟨p, 0, none⟩)] w fun e w' => e = .returned (.bool (stopReady s)) ∧ ∃ n, w' = w.drewN n := by
 have A := Hd (son_any w h);have B := Hd (sleft_any w h);clear h;unfold stopReady;generalize stopOn s = on at *
 have HB : Hid ((stopLeft s == 0) = ((stopLeft s : Int) == 0)) := Hd (by rw [Bool.eq_iff_iff]; simp)
 generalize stopLeft s = x at *
 cases on with
 | true =>
  rw [HB.out]
  go_enter func353, ntmps353
  go_wp2_with fail;refine A.out.mono ?_;rintro e w1 ⟨rfl, rfl⟩;go_wp2_with fail;refine B.out.mono ?_;rintro e w1 ⟨rfl, n, rfl⟩;go_wp2;go_returns
  exact ⟨by simp, _, rfl⟩
 | false =>
  go_enter func353, ntmps353
  go_wp2_with fail;refine A.out.mono ?_;rintro e w1 ⟨rfl, rfl⟩;go_wp2;go_returns
  exact ⟨rfl, 0, rfl⟩
structure Run where
 stages : Int
 done : Int
 back : Bool
structure RunAt (w : World) (F : Nat → Prop) (p : Nat) (s : Run) : Prop where
 head : Blk w p #[.int .i64 s.stages, .int .i64 s.done, .bool s.back] 361
 fp : F p
theorem RunAt.ch {F G : Nat → Prop} {s : Run} (h : RunAt w F p s) (hc : Ch G w w') (hd : ∀ b, F b → ¬ G b) : RunAt w' F p s := ⟨h.head.ch hc (hd _ h.fp), h.fp⟩
theorem RunAt.mono {F G : Nat → Prop} {s : Run} (h : RunAt w F p s) (hd : ∀ b, F b → G b) : RunAt w G p s := ⟨h.head, hd _ h.fp⟩
theorem RunAt.below {s : Run} (h : RunAt w F p s) (hb : Below w.heap.size w w') : RunAt w' F p s := h.ch (Ch.off hb) (fun _ _ h => h)
theorem run_new (w : World) (n : Int) (h1 : 1 ≤ n) (h64 : n ≤ 64) : Calls prog 243 #[.int .i64 n] w fun e w' => (∃ p, e = .returned (.tuple #[.pointer (some ⟨p, 0, none⟩), .int .i64 0]) ∧ RunAt w' (Plus w w' (fun _ => False)) p ⟨n, 0, false⟩) ∧ Below w.heap.size w w' := by
 go_enter func243, ntmps243
 go_wp2;go_returns
 exact ⟨⟨_, rfl, Blk.at _ _ rfl, .inr (by simp)⟩, (Below.refl _ _).alloc (Nat.le_refl _) _⟩
def runOver (s : Run) : Bool := (s.back && s.done == 0) || (!s.back && s.done == s.stages)
def runAt (s : Run) : Int := if runOver s then 0 else if s.back then wrap64 (s.done - 1) else s.done
theorem rat_any (w : World) {s : Run} (h : RunAt w F p s) : Calls prog 260 #[.pointer (some ⟨p, 0, none⟩)] w fun e w' => e = .returned (.tuple #[.int .i64 (runAt s), .bool s.back, .bool (runOver s)]) ∧ ∃ n, w' = w.drewN n := by
 have c0 : w.cell? ⟨p, 0, none⟩ = some (.int .i64 s.stages) := h.head.cell 0
 have c1 : w.cell? ⟨p, 1, none⟩ = some (.int .i64 s.done) := h.head.cell 1
 have c2 : w.cell? ⟨p, 2, none⟩ = some (.bool s.back) := h.head.cell 2
 clear h;obtain ⟨n, d, b⟩ := s;unfold runAt runOver;dsimp only at *
 cases b with
 | true =>
  by_cases hd : d = 0
  ·subst hd
   go_enter func260, ntmps260
   go_wp2;go_quiet (fail);go_wp2;go_quiet (fail);go_wp2
   all_goals
    refine bodyPost_ret (v := .tuple #[.int .i64 0, .bool true, .bool true]) (by simp [results, results260, go_sem]) rfl ⟨by simp, _, rfl⟩
  ·have hb : (d == 0) = false := by simpa using hd
   clear hd
   go_enter func260, ntmps260
   go_wp2;go_quiet (fail);go_wp2
   all_goals
    refine bodyPost_ret (v := .tuple #[.int .i64 (wrap64 (d - 1)), .bool true, .bool false]) (by simp [results, results260, go_sem]) rfl ⟨by simp [hb], _, rfl⟩
 | false =>
  by_cases hd : d = n
  ·subst hd
   go_enter func260, ntmps260
   go_wp2;go_quiet (fail);go_wp2;go_quiet (fail);go_wp2
   all_goals
    refine bodyPost_ret (v := .tuple #[.int .i64 0, .bool false, .bool true]) (by simp [results, results260, go_sem]) rfl ⟨by simp, _, rfl⟩
  ·have hb : (d == n) = false := by simpa using hd
   clear hd
   go_enter func260, ntmps260
   go_wp2;go_quiet (fail);go_wp2
   all_goals
    refine bodyPost_ret (v := .tuple #[.int .i64 d, .bool false, .bool false]) (by simp [results, results260, go_sem]) rfl ⟨by simp [hb], _, rfl⟩
def runFail (s : Run) : Run × Int := if s.back || runOver s then (s, 6) else (⟨s.stages, s.done, true⟩, 0)
theorem rfail_any (w : World) {s : Run} (h : RunAt w F p s) : Calls prog 261 #[.pointer (some ⟨p, 0, none⟩)] w fun e w' => e = .returned (.int .i64 (runFail s).2) ∧ RunAt w' F p (runFail s).1 ∧ Ch F w w' ∧ w'.heap.size = w.heap.size := by
 have A := Hd (rat_any w h)
 have c2 : w.cell? ⟨p, 2, none⟩ = some (.bool s.back) := h.head.cell 2
 have f2 : w.frozen? ⟨p, 2, none⟩ = false := h.head.frozen 2
 have HT := Hd h;clear h;unfold runFail;generalize runOver s = o at *;generalize runAt s = x at *
 cases hb : s.back with
 | true =>
  rw [hb] at A c2;clear hb
  cases o
  all_goals
   go_enter func261, ntmps261
   go_wp2_with fail;refine A.out.mono ?_;rintro e w1 ⟨rfl, n, rfl⟩;go_wp2;go_returns
   exact ⟨rfl, HT.out.below (belowN _ _), (Ch.refl _ _).drewN _, rfl⟩
 | false =>
  rw [hb] at A c2;clear hb
  cases o
  ·go_enter func261, ntmps261
   go_wp2_with fail;refine A.out.mono ?_;rintro e w1 ⟨rfl, n, rfl⟩;go_wp2;go_returns
   exact ⟨rfl, ⟨(HT.out.head.drewN n).set 2 _, HT.out.fp⟩, ((Ch.refl _ _).drewN n).setCell (p := ⟨p, 2, none⟩) (fun _ => HT.out.fp) _, by simp⟩
  ·go_enter func261, ntmps261
   go_wp2_with fail;refine A.out.mono ?_;rintro e w1 ⟨rfl, n, rfl⟩;go_wp2;go_returns
   exact ⟨rfl, HT.out.below (belowN _ _), (Ch.refl _ _).drewN _, rfl⟩
def runDone (s : Run) : Run × Int := if runOver s then (s, 6) else (⟨s.stages, if s.back then wrap64 (s.done - 1) else wrap64 (s.done + 1), s.back⟩, 0)
theorem rdone_any (w : World) {s : Run} (h : RunAt w F p s) : Calls prog 267 #[.pointer (some ⟨p, 0, none⟩)] w fun e w' => e = .returned (.int .i64 (runDone s).2) ∧ RunAt w' F p (runDone s).1 ∧ Ch F w w' ∧ w'.heap.size = w.heap.size := by
 have A := Hd (rat_any w h)
 have c1 : w.cell? ⟨p, 1, none⟩ = some (.int .i64 s.done) := h.head.cell 1
 have f1 : w.frozen? ⟨p, 1, none⟩ = false := h.head.frozen 1
 have HT := Hd h;clear h;unfold runDone;generalize runOver s = o at *;generalize runAt s = x at *
 cases o with
 | true =>
  cases hb : s.back
  all_goals
   rw [hb] at A;clear hb
   go_enter func267, ntmps267
   go_wp2_with fail;refine A.out.mono ?_;rintro e w1 ⟨rfl, n, rfl⟩;go_wp2;go_returns
   exact ⟨rfl, HT.out.below (belowN _ _), (Ch.refl _ _).drewN _, rfl⟩
 | false =>
  cases hb : s.back with
  | true =>
   rw [hb] at A;replace hb := Hd hb
   go_enter func267, ntmps267
   go_wp2_with fail;refine A.out.mono ?_;rintro e w1 ⟨rfl, n, rfl⟩;go_wp2;go_returns
   have h3 := (HT.out.head.drewN n).set 1 (.int .i64 (wrap64 (s.done - 1)))
   rw [hb.out] at h3
   exact ⟨rfl, ⟨h3, HT.out.fp⟩, ((Ch.refl _ _).drewN n).setCell (p := ⟨p, 1, none⟩) (fun _ => HT.out.fp) _, by simp⟩
  | false =>
   rw [hb] at A;replace hb := Hd hb
   go_enter func267, ntmps267
   go_wp2_with fail;refine A.out.mono ?_;rintro e w1 ⟨rfl, n, rfl⟩;go_wp2;go_returns
   have h3 := (HT.out.head.drewN n).set 1 (.int .i64 (wrap64 (s.done + 1)))
   rw [hb.out] at h3
   exact ⟨rfl, ⟨h3, HT.out.fp⟩, ((Ch.refl _ _).drewN n).setCell (p := ⟨p, 1, none⟩) (fun _ => HT.out.fp) _, by simp⟩
def runWhy (s : Run) : Int := if !runOver s then 7 else if s.back then 11 else 0
theorem rwhy_any (w : World) {s : Run} (h : RunAt w F p s) : Calls prog 268 #[.pointer (some ⟨p, 0, none⟩)] w fun e w' => e = .returned (.int .i64 (runWhy s)) ∧ ∃ n, w' = w.drewN n := by
 have A := Hd (rat_any w h);clear h;unfold runWhy;generalize runOver s = o at *;generalize runAt s = x at *;generalize s.back = b at *
 cases o <;> cases b
 all_goals
  go_enter func268, ntmps268
  go_wp2_with fail;refine A.out.mono ?_;rintro e w1 ⟨rfl, n, rfl⟩;go_wp2;go_returns
  exact ⟨rfl, _, rfl⟩
structure Req where
 run : Run
 up : Bool
 cpu : Int
 who : Int
 told : Bool
structure Desk where
 req : Option Req
 planned : Option (List (Int × Bool))
def encB (m : List (Int × Bool)) : List (Int × Value) := m.map fun x => (x.1, Value.bool x.2)
def reqCells (sp : Nat) (r : Req) : Array Value := #[.pointer (some ⟨sp, 0, none⟩), .bool r.up, .int .i64 r.cpu, .int .i64 r.who, .bool r.told]
def ReqAt (w : World) (F : Nat → Prop) (c : Nat → Nat) (rv : Value) : Option Req → Prop
 | none => rv = .pointer none
 | some r => ∃ rp sp, rv = .pointer (some ⟨rp, 0, none⟩) ∧ Blk w rp (reqCells sp r) 190 ∧ Col F c 1 rp ∧ RunAt w (Col F c 2) sp r.run
def PlanAt (w : World) (F : Nat → Prop) (c : Nat → Nat) (mv : Value) : Option (List (Int × Bool)) → Prop
 | none => mv = .map none
 | some m => ∃ mb, mv = .map (some mb) ∧ MapAt w mb (encB m) ∧ Col F c 3 mb
structure DeskAtQ (w : World) (F : Nat → Prop) (p : Nat) (rv mv : Value) (c : Nat → Nat) (d : Desk) : Prop where
 head : Blk w p #[rv, mv] 146
 fp : Col F c 0 p
 req : ReqAt w F c rv d.req
 plan : PlanAt w F c mv d.planned
 lt : ∀ b, F b → b < w.heap.size
def DeskAt (w : World) (F : Nat → Prop) (p : Nat) (d : Desk) : Prop := ∃ rv mv c, DeskAtQ w F p rv mv c d
theorem ReqAt.ch {F G : Nat → Prop} {c : Nat → Nat} {rv : Value} {r : Option Req} (h : ReqAt w F c rv r) (hc : Ch G w w') (h1 : ∀ b, Col F c 1 b → ¬ G b) (h2 : ∀ b, Col F c 2 b → ¬ G b) : ReqAt w' F c rv r := by
 cases r with
 | none => exact h
 | some r =>
  obtain ⟨rp, sp, a, b, d, e⟩ := h
  exact ⟨rp, sp, a, b.ch hc (h1 _ d), d, e.ch hc h2⟩
theorem ReqAt.mono {F G : Nat → Prop} {c c' : Nat → Nat} {rv : Value} {r : Option Req} (h : ReqAt w F c rv r) (h1 : ∀ i b, Col F c i b → Col G c' i b) : ReqAt w G c' rv r := by
 cases r with
 | none => exact h
 | some r =>
  obtain ⟨rp, sp, a, b, d, e⟩ := h
  exact ⟨rp, sp, a, b, h1 _ _ d, e.mono (h1 2)⟩
theorem PlanAt.ch {F G : Nat → Prop} {c : Nat → Nat} {mv : Value} {m : Option (List (Int × Bool))} (h : PlanAt w F c mv m) (hc : Ch G w w') (h1 : ∀ b, Col F c 3 b → ¬ G b) : PlanAt w' F c mv m := by
 cases m with
 | none => exact h
 | some m =>
  obtain ⟨mb, a, b, d⟩ := h
  exact ⟨mb, a, b.ch hc (h1 _ d), d⟩
theorem PlanAt.mono {F G : Nat → Prop} {c c' : Nat → Nat} {mv : Value} {m : Option (List (Int × Bool))} (h : PlanAt w F c mv m) (h1 : ∀ i b, Col F c i b → Col G c' i b) : PlanAt w G c' mv m := by
 cases m with
 | none => exact h
 | some m =>
  obtain ⟨mb, a, b, d⟩ := h
  exact ⟨mb, a, b, h1 _ _ d⟩
theorem DeskAt.ch {F G : Nat → Prop} {d : Desk} (h : DeskAt w F p d) (hc : Ch G w w') (hd : ∀ b, F b → ¬ G b) : DeskAt w' F p d := by
 obtain ⟨rv, mv, c, h⟩ := h
 exact ⟨rv, mv, c, h.head.ch hc (hd _ h.fp.1), h.fp, h.req.ch hc (fun b hb => hd b hb.1) (fun b hb => hd b hb.1), h.plan.ch hc (fun b hb => hd b hb.1), fun b hb => Nat.lt_of_lt_of_le (h.lt b hb) hc.size⟩
theorem DeskAt.mono {F G : Nat → Prop} {d : Desk} (h : DeskAt w F p d) (hd : ∀ b, F b → G b) (hG : ∀ b, G b → b < w.heap.size) : DeskAt w G p d := by
 obtain ⟨rv, mv, c, h⟩ := h
 exact ⟨rv, mv, c, h.head, ⟨hd _ h.fp.1, h.fp.2⟩, h.req.mono (fun i b hb => ⟨hd b hb.1, hb.2⟩), h.plan.mono (fun i b hb => ⟨hd b hb.1, hb.2⟩), hG⟩
theorem DeskAt.below {d : Desk} (h : DeskAt w F p d) (hb : Below w.heap.size w w') : DeskAt w' F p d := h.ch (Ch.off hb) (fun _ _ h => h)
def deskBusy (d : Desk) : Bool := d.req.isSome
theorem dbusy_any (w : World) {d : Desk} (h : DeskAt w F p d) : Calls prog 35 #[.pointer (some ⟨p, 0, none⟩)] w fun e w' => e = .returned (.bool (deskBusy d)) ∧ w = w' := by
 obtain ⟨rv, mv, c, h⟩ := h
 have c0 : w.cell? ⟨p, 0, none⟩ = some rv := h.head.cell 0
 have hr := h.req;unfold deskBusy
 cases hd : d.req with
 | none =>
  rw [hd] at hr
  have hr' : rv = .pointer none := hr
  subst hr';clear hr h hd
  go_enter func35, ntmps35
  go_wp2;go_returns
  exact ⟨rfl, rfl⟩
 | some r =>
  rw [hd] at hr;obtain ⟨rp, sp, rfl, -⟩ := hr;clear h hd
  go_enter func35, ntmps35
  go_wp2;go_returns
  exact ⟨rfl, rfl⟩
def deskUp (d : Desk) : Bool := match d.req with | none => false | some r => r.up
def deskCpu (d : Desk) : Int := match d.req with | none => 0 | some r => r.cpu
def deskBy (d : Desk) : Int := match d.req with | none => 0 | some r => r.who
def deskOver (d : Desk) : Bool := match d.req with | none => false | some r => runOver r.run
def deskMay (d : Desk) : Int := match d.req with | none => 12 | some r => if runOver r.run then 6 else 0
theorem DeskAtQ.none {rv mv : Value} {c : Nat → Nat} {d : Desk} (h : DeskAtQ w F p rv mv c d) (hd : d.req = .none) : w.cell? ⟨p, 0, .none⟩ = some (.pointer .none) := by
 have hr := h.req;rw [hd] at hr
 have hr' : rv = .pointer .none := hr
 subst hr'
 exact h.head.cell 0
theorem DeskAtQ.some {rv mv : Value} {c : Nat → Nat} {d : Desk} (h : DeskAtQ w F p rv mv c d) {r : Req} (hd : d.req = .some r) : ∃ rp sp, rv = .pointer (.some ⟨rp, 0, .none⟩) ∧ w.cell? ⟨p, 0, .none⟩ = .some (.pointer (.some ⟨rp, 0, .none⟩)) ∧ Blk w rp (reqCells sp r) 190 ∧ Col F c 1 rp ∧ RunAt w (Col F c 2) sp r.run := by
 have hr := h.req;rw [hd] at hr;obtain ⟨rp, sp, rfl, a, b, e⟩ := hr
 exact ⟨rp, sp, rfl, h.head.cell 0, a, b, e⟩
theorem dup_any (w : World) {d : Desk} (h : DeskAt w F p d) : Calls prog 262 #[.pointer (some ⟨p, 0, none⟩)] w fun e w' => e = .returned (.bool (deskUp d)) ∧ w = w' := by
 have A := Hd (dbusy_any w h);obtain ⟨rv, mv, c, h⟩ := h;unfold deskUp;unfold deskBusy at A
 cases hd : d.req with
 | none =>
  rw [hd] at A;clear h hd
  go_enter func262, ntmps262
  go_wp2_with fail;refine A.out.mono ?_;rintro e w1 ⟨rfl, rfl⟩;go_wp2;go_returns
  exact ⟨rfl, rfl⟩
 | some r =>
  obtain ⟨rp, sp, -, c0, hb, -, -⟩ := h.some hd
  have k1 : w.cell? ⟨rp, 1, none⟩ = some (.bool r.up) := hb.cell 1
  rw [hd] at A;clear h hd hb
  go_enter func262, ntmps262
  go_wp2_with fail;refine A.out.mono ?_;rintro e w1 ⟨rfl, rfl⟩;go_wp2;go_returns
  exact ⟨rfl, rfl⟩
theorem dcpu_any (w : World) {d : Desk} (h : DeskAt w F p d) : Calls prog 190 #[.pointer (some ⟨p, 0, none⟩)] w fun e w' => e = .returned (.int .i64 (deskCpu d)) ∧ w = w' := by
 have A := Hd (dbusy_any w h);obtain ⟨rv, mv, c, h⟩ := h;unfold deskCpu;unfold deskBusy at A
 cases hd : d.req with
 | none =>
  rw [hd] at A;clear h hd
  go_enter func190, ntmps190
  go_wp2_with fail;refine A.out.mono ?_;rintro e w1 ⟨rfl, rfl⟩;go_wp2;go_returns
  exact ⟨rfl, rfl⟩
 | some r =>
  obtain ⟨rp, sp, -, c0, hb, -, -⟩ := h.some hd
  have k1 : w.cell? ⟨rp, 2, none⟩ = some (.int .i64 r.cpu) := hb.cell 2
  rw [hd] at A;clear h hd hb
  go_enter func190, ntmps190
  go_wp2_with fail;refine A.out.mono ?_;rintro e w1 ⟨rfl, rfl⟩;go_wp2;go_returns
  exact ⟨rfl, rfl⟩
theorem dby_any (w : World) {d : Desk} (h : DeskAt w F p d) : Calls prog 36 #[.pointer (some ⟨p, 0, none⟩)] w fun e w' => e = .returned (.int .i64 (deskBy d)) ∧ w = w' := by
 have A := Hd (dbusy_any w h);obtain ⟨rv, mv, c, h⟩ := h;unfold deskBy;unfold deskBusy at A
 cases hd : d.req with
 | none =>
  rw [hd] at A;clear h hd
  go_enter func36, ntmps36
  go_wp2_with fail;refine A.out.mono ?_;rintro e w1 ⟨rfl, rfl⟩;go_wp2;go_returns
  exact ⟨rfl, rfl⟩
 | some r =>
  obtain ⟨rp, sp, -, c0, hb, -, -⟩ := h.some hd
  have k1 : w.cell? ⟨rp, 3, none⟩ = some (.int .i64 r.who) := hb.cell 3
  rw [hd] at A;clear h hd hb
  go_enter func36, ntmps36
  go_wp2_with fail;refine A.out.mono ?_;rintro e w1 ⟨rfl, rfl⟩;go_wp2;go_returns
  exact ⟨rfl, rfl⟩
theorem dover_any (w : World) {d : Desk} (h : DeskAt w F p d) : Calls prog 194 #[.pointer (some ⟨p, 0, none⟩)] w fun e w' => e = .returned (.bool (deskOver d)) ∧ ∃ n, w' = w.drewN n := by
 have A := Hd (dbusy_any w h);obtain ⟨rv, mv, c, h⟩ := h;unfold deskOver;unfold deskBusy at A
 cases hd : d.req with
 | none =>
  rw [hd] at A;clear h hd
  go_enter func194, ntmps194
  go_wp2_with fail;refine A.out.mono ?_;rintro e w1 ⟨rfl, rfl⟩;go_wp2;go_returns
  exact ⟨rfl, 0, rfl⟩
 | some r =>
  obtain ⟨rp, sp, -, c0, hb, -, hr⟩ := h.some hd
  have k0 : w.cell? ⟨rp, 0, none⟩ = some (.pointer (some ⟨sp, 0, none⟩)) := hb.cell 0
  have B := Hd (rat_any w hr);rw [hd] at A;clear h hd hb hr
  go_enter func194, ntmps194
  go_wp2_with fail;refine A.out.mono ?_;rintro e w1 ⟨rfl, rfl⟩;go_wp2_with fail;refine B.out.mono ?_;rintro e w1 ⟨rfl, n, rfl⟩;go_wp2;go_returns
  exact ⟨rfl, n, rfl⟩
theorem dmay_any (w : World) {d : Desk} (h : DeskAt w F p d) : Calls prog 259 #[.pointer (some ⟨p, 0, none⟩)] w fun e w' => e = .returned (.int .i64 (deskMay d)) ∧ ∃ n, w' = w.drewN n := by
 have A := Hd (dover_any w h);obtain ⟨rv, mv, c, h⟩ := h;unfold deskMay;unfold deskOver at A
 cases hd : d.req with
 | none =>
  have c0 := h.none hd
  rw [hd] at A;clear h hd
  go_enter func259, ntmps259
  go_wp2;go_returns
  exact ⟨rfl, 0, rfl⟩
 | some r =>
  obtain ⟨rp, sp, -, c0, hb, -, hr⟩ := h.some hd
  rw [hd] at A;clear h hd hb hr;dsimp only at A ⊢;generalize runOver r.run = o at *
  cases o
  all_goals
   go_enter func259, ntmps259
   go_wp2_with fail;refine A.out.mono ?_;rintro e w1 ⟨rfl, n, rfl⟩;go_wp2;go_returns
   exact ⟨rfl, n, rfl⟩
end Go.Proofs.YtiocbpabbjgkhaaGreatDoor
