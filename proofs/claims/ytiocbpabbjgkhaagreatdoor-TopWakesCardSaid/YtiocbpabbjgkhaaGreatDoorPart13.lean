/- Part 13 of the proof: contracts and plain laws, each under the conditions that it names. -/
import Derived.Test.YtiocbpabbjgkhaaGreatDoorPart12
import Derived.LoopN
set_option maxRecDepth 100000
set_option maxHeartbeats 20000000
set_option linter.unusedVariables false
set_option linter.unusedSimpArgs false
namespace Go.Proofs.YtiocbpabbjgkhaaGreatDoor
open Go.RowKit Tryz
variable {w w' : World} {F : Nat → Prop} {p : Nat}
def BesideS (sp most : Nat) (w : World) (F : Nat → Prop) : Prop := SlotAt w F sp most ⟨0, 0⟩ ∧ ∀ b, F b → b < w.heap.size
theorem besideS_keeps (sp most : Nat) : Keeps (BesideS sp most) :=
 ⟨fun h hc hd => ⟨h.1.ch hc hd, fun b hb => Nat.lt_of_lt_of_le (h.2 b hb) hc.size⟩, fun h hd hG => ⟨h.1.mono hd, hG⟩⟩
theorem PartQ.box {sp : Nat} {p k : Nat} {rv : Value} {ptrs c : Nat → Nat} (h : PartQ Fifo32 200 223 1 (fun v => #[.pointer (some ⟨sp, 0, none⟩), v]) (BesideS sp 32) ([] : List Int) w w' p k rv ptrs c) (h1 : 1 ≤ k) (h2 : k ≤ 65) :
  BoxAt w' (Plus w w' (fun _ => False)) p ⟨⟨0, 0⟩, List.replicate k []⟩ := by
 refine ⟨sp, rv, ptrs, c, h.head, h.rest.1, ?_, h.fp, plus0_lt, fun i hi => ?_, by simpa using h1, by simpa using h2⟩
 ·simp only [List.length_replicate]
  exact h.row
 ·have hi' : i < k := by simpa using hi
  have e : (List.replicate k ([] : List Int)).getD i [] = [] := by simp [hi']
  show Fifo32 w' _ _ ((List.replicate k []).getD i [])
  rw [e]
  exact h.ls i hi'
def box0 (cpus : Nat) : Box := ⟨⟨0, 0⟩, List.replicate cpus []⟩
theorem box_new (w : World) (cpus : Nat) (h1 : 1 ≤ cpus) (h64 : cpus ≤ 64) : Calls prog 62 #[.int .i64 cpus] w fun e w' => (∃ p, e = .returned (.tuple #[.pointer (some ⟨p, 0, none⟩), .int .i64 0]) ∧ BoxAt w' (Plus w w' (fun _ => False)) p (box0 cpus)) ∧ Below w.heap.size w w' := by
 have S := Hd (slot_new w 32 (by omega) (by omega))
 go_enter func62, ntmps62
 go_wp2_with fail;refine S.out.mono ?_;rintro e w1 ⟨⟨sp, rfl, hs⟩, hb⟩;have hs1 := hb.size;have HS := Hd hs;have HB := Hd hb;clear hs hb;go_wp2
 have H0 : PartQ Fifo32 200 223 1 (fun v => #[.pointer (some ⟨sp, 0, none⟩), v]) (BesideS sp 32) ([] : List Int) w (w1.alloc (.cells #[.pointer (some ⟨sp, 0, none⟩), .slice none 0 0] 200)) (w1.heap.size) 0 (.slice none 0 0) (fun _ => 0) (fun b => if b = w1.heap.size then 3 else 0) := by
  have hb2 : Below w1.heap.size w1 (w1.alloc (.cells #[.pointer (some ⟨sp, 0, none⟩), .slice none 0 0] 200)) := (Below.refl _ _).alloc (Nat.le_refl _) _
  refine ⟨Blk.at _ _ (by simp), RowAt.nil _ _ _ _, ⟨(HS.out.ch (Ch.off hb2) (fun _ _ h => h)).mono (fun b hb => ?_), fun b hb => plus0_lt b hb.1⟩, ⟨.inr ⟨by omega, by simp⟩, by simp⟩, fun i hi => by omega, HB.out.trans (hb2.mono hs1)⟩
  have hlt := plus0_lt b hb
  refine ⟨.inr ⟨hb.elim (fun e => e.elim) (fun e => e.1), by simp; omega⟩, ?_⟩
  have : b ≠ w1.heap.size := by omega
  simp [this]
 replace H0 := Hd H0
 go_loopw [27, 7, 8] (fun iv _ _ wr => ∃ k : Nat, iv = .int .i64 k ∧ k ≤ cpus ∧ ∃ rv ptrs c, Hid (PartQ Fifo32 200 223 1 (fun v => #[.pointer (some ⟨sp, 0, none⟩), v]) (BesideS sp 32) ([] : List Int) w wr (w1.heap.size) k rv ptrs c)) (fun iv _ _ _ => cpus - (intOf iv).toNat)
 case atStart => exact ⟨0, rfl, by omega, _, _, _, H0⟩
 case round =>
  clear H0;obtain ⟨k, rfl, hk, rv, ptrs, c, H⟩ := hrel
  by_cases hlt : k < cpus
  ·have A := Hd (fifo_new wr 32 (by omega) (by omega))
   have c0 : wr.cell? ⟨w1.heap.size, 1, none⟩ = some rv := H.out.head.cell 1
   obtain ⟨base, cap, rfl⟩ := H.out.row.form;go_wp2_with fail;refine A.out.mono ?_;rintro e w2 ⟨⟨x, rfl, hx⟩, hb⟩
   have hz := (H.out.head.ch (Ch.off hb) (fun h => h))
   have c2 : w2.cell? ⟨w1.heap.size, 1, none⟩ = some (.slice base k cap) := hz.cell 1
   have hrow := fun o => RowAt.ch H.out.row (((Ch.off hb)).alloc o) (fun _ _ h => h)
   replace hrow := Hd hrow;replace hx := Hd hx;have HBb := Hd hb;replace hz := Hd hz;clear hb
   go_wp2_with (at_builtin; refine wpList_app rfl _ _ 198 rfl info223 underlying198 rfl (by omega) (hrow.out _) (a := ⟨w2.heap.size, 0, none⟩) (m := 1) (c := 1) (news := [.pointer (some ⟨x, 0, none⟩)]) rfl rfl rfl ?_ (by simp [Value.oneCell']) (by omega) (by unfold maxLen; omega) (by omega) ?_)
   ·intro j u hj
    cases j with
    | zero =>
     have : u = .pointer (some ⟨x, 0, none⟩) := by simpa using hj.symm
     subst this
     exact cell_at1 _ _ rfl
    | succ j => simp at hj
   ·intro v' w3 h5 h6
    have hz3 := (hz.out.alloc _).ch h6 (Col.apart (by omega) _ H.out.fp)
    have c3 : w3.cell? ⟨w1.heap.size, 1, none⟩ = some (.slice base k cap) := hz3.cell 1
    have f3 : w3.frozen? ⟨w1.heap.size, 1, none⟩ = false := hz3.frozen 1
    obtain ⟨base', cap', rfl⟩ := h5.form
    obtain ⟨c', hst⟩ := H.out.step ownF (besideS_keeps _ _) (fun _ _ => rfl) hx.out HBb.out h5 h6
    replace hst := Hd hst;clear hz3 h5 h6 hz hrow hx HBb H A;go_wp2;go_roundw
    case rel => exact ⟨k + 1, by go_num, hlt, _, _, _, hst⟩
    case measure => simp [intOf]; omega
  ·have : k = cpus := by omega
   subst this;go_wp2;go_returns
   exact ⟨⟨_, rfl, H.out.box h1 (by omega)⟩, H.out.below⟩
structure Route where
 l : List Int
 cpus : Nat
structure RouteAt (w : World) (F : Nat → Prop) (p : Nat) (r : Route) : Prop where
 head : Blk w p (r.l.map (Value.int .i64) ++ [Value.int .i64 r.cpus]).toArray 220
 fp : F p
 len : r.l.length = 16
 ok : ∀ x ∈ r.l, 0 ≤ x ∧ x ≤ 64
 n64 : r.cpus ≤ 64
theorem RouteAt.ch {F G : Nat → Prop} {r : Route} (h : RouteAt w F p r) (hc : Ch G w w') (hd : ∀ b, F b → ¬ G b) : RouteAt w' F p r := ⟨h.head.ch hc (hd _ h.fp), h.fp, h.len, h.ok, h.n64⟩
theorem RouteAt.mono {F G : Nat → Prop} {r : Route} (h : RouteAt w F p r) (hd : ∀ b, F b → G b) : RouteAt w G p r := ⟨h.head, hd _ h.fp, h.len, h.ok, h.n64⟩
theorem RouteAt.below {r : Route} (h : RouteAt w F p r) (hb : Below w.heap.size w w') : RouteAt w' F p r := h.ch (Ch.off hb) (fun _ _ h => h)
theorem RouteAt.cell {r : Route} (h : RouteAt w F p r) {i : Nat} (hi : i < 16) : w.cell? ⟨p, i, none⟩ = some (.int .i64 (r.l.getD i 0)) := by
 have hi2 : i < r.l.length := by rw [h.len]; exact hi
 rw [h.head.cell, List.getElem?_toArray, List.getElem?_append_left (by rw [List.length_map]; exact hi2), List.getElem?_map, getD_some (d := 0) hi2]
 rfl
theorem RouteAt.cc {r : Route} (h : RouteAt w F p r) : w.cell? ⟨p, 16, none⟩ = some (.int .i64 r.cpus) := by
 rw [h.head.cell, List.getElem?_toArray, List.getElem?_append_right (by rw [List.length_map, h.len]; omega), List.length_map, h.len]
 rfl
theorem RouteAt.bound {r : Route} (h : RouteAt w F p r) {i : Nat} (hi : i < 16) : 0 ≤ r.l.getD i 0 ∧ r.l.getD i 0 ≤ 64 := by
 have hi2 : i < r.l.length := by rw [h.len]; exact hi
 exact h.ok _ (List.mem_of_getElem? (getD_some (d := 0) hi2))
theorem RouteAt.set {r : Route} (h : RouteAt w F p r) {i : Nat} (hi : i < 16) (v : Int) (hv : 0 ≤ v ∧ v ≤ 64) : RouteAt (w.setCell ⟨p, i, none⟩ (.int .i64 v)) F p ⟨r.l.set i v, r.cpus⟩ := by
 refine ⟨?_, h.fp, by simpa using h.len, fun x hx => (List.mem_or_eq_of_mem_set hx).elim (h.ok x) (fun e => e ▸ hv), h.n64⟩
 have := h.head.set i (.int .i64 v)
 rw [List.setIfInBounds_toArray, List.set_append_left _ _ (by rw [List.length_map, h.len]; exact hi), ← List.map_set] at this
 exact this
theorem omay_any (w : World) (p : Nat) (n : Int) : Calls prog 179 #[.pointer (some ⟨p, 0, none⟩), .int .i64 n] w fun e w' => e = .returned (.int .i64 (mayF 16 n)) ∧ w = w' := by
 rcases may_cases 16 n with ⟨h1, e⟩ | ⟨h1, h2, e⟩ | ⟨i, rfl, h2, e⟩
 all_goals
  rw [e];clear e
  go_enter func179, ntmps179
  go_wp2;go_returns
  exact ⟨rfl, rfl⟩
def routeSet (r : Route) (n cpu : Int) : Route × Int := if mayF 16 n ≠ 0 then (r, 3) else if mayF r.cpus cpu ≠ 0 then (r, 3) else (⟨r.l.set n.toNat (cpu + 1), r.cpus⟩, 0)
theorem oset_any (w : World) {r : Route} (h : RouteAt w F p r) (n cpu : Int) : Calls prog 229 #[.pointer (some ⟨p, 0, none⟩), .int .i64 n, .int .i64 cpu] w fun e w' => e = .returned (.int .i64 (routeSet r n cpu).2) ∧ RouteAt w' F p (routeSet r n cpu).1 ∧ Ch F w w' ∧ w'.heap.size = w.heap.size := by
 have HT := Hd h;have A := Hd (omay_any w p n);have cc := h.cc;have h64 := h.n64;unfold routeSet
 by_cases hm : mayF 16 n = 0
 ·obtain ⟨i, rfl, hi⟩ := may_yes hm
  rw [hm] at A
  rw [if_neg (by simp [hm])]
  have ci := h.cell hi
  have fi : w.frozen? ⟨p, i, none⟩ = false := h.head.frozen _
  simp only [Int.toNat_natCast]
  clear h hm
  rcases may_cases r.cpus cpu with ⟨h1, e⟩ | ⟨h1, h2, e⟩ | ⟨j, rfl, h2, e⟩
  ·rw [if_pos (by rw [e]; decide)]
   clear e
   go_enter func229, ntmps229
   go_wp2_with fail;refine A.out.mono ?_;rintro e w1 ⟨rfl, rfl⟩;go_wp2;go_returns
   exact ⟨rfl, HT.out, Ch.refl _ _, rfl⟩
  ·rw [if_pos (by rw [e]; decide)]
   clear e
   go_enter func229, ntmps229
   go_wp2_with fail;refine A.out.mono ?_;rintro e w1 ⟨rfl, rfl⟩;go_wp2;go_returns
   exact ⟨rfl, HT.out, Ch.refl _ _, rfl⟩
  ·rw [if_neg (by rw [e]; decide)]
   clear e
   go_enter func229, ntmps229
   go_wp2_with fail;refine A.out.mono ?_;rintro e w1 ⟨rfl, rfl⟩;go_wp2;go_returns
   exact ⟨rfl, HT.out.set hi (j + 1) (by omega), (Ch.refl _ _).setCell (p := ⟨p, i, none⟩) (fun _ => HT.out.fp) _, by simp⟩
 ·have e := may_no hm
  rw [if_pos hm];rw [e] at A;clear h hm e cc
  go_enter func229, ntmps229
  go_wp2_with fail;refine A.out.mono ?_;rintro e w1 ⟨rfl, rfl⟩;go_wp2;go_returns
  exact ⟨rfl, HT.out, Ch.refl _ _, rfl⟩
def routeOf (r : Route) (n : Int) : Int × Bool := if mayF 16 n ≠ 0 then (0, false) else if r.l.getD n.toNat 0 = 0 then (0, false) else (r.l.getD n.toNat 0 - 1, true)
theorem oof_any (w : World) {r : Route} (h : RouteAt w F p r) (n : Int) : Calls prog 99 #[.pointer (some ⟨p, 0, none⟩), .int .i64 n] w fun e w' => e = .returned (.tuple #[.int .i64 (routeOf r n).1, .bool (routeOf r n).2]) ∧ w = w' := by
 have A := Hd (omay_any w p n);unfold routeOf
 by_cases hm : mayF 16 n = 0
 ·obtain ⟨i, rfl, hi⟩ := may_yes hm
  rw [hm] at A
  rw [if_neg (by simp [hm])]
  have ci := h.cell hi
  have hb := h.bound hi
  simp only [Int.toNat_natCast]
  clear h hm;generalize r.l.getD i 0 = x at *
  by_cases hx : x = 0
  ·subst hx
   rw [if_pos rfl];clear hb
   go_enter func99, ntmps99
   go_wp2_with fail;refine A.out.mono ?_;rintro e w1 ⟨rfl, rfl⟩;go_wp2;go_returns
   exact ⟨rfl, rfl⟩
  ·rw [if_neg hx]
   have hx' : (x == 0) = false := by simpa using hx
   clear hx
   go_enter func99, ntmps99
   go_wp2_with fail;refine A.out.mono ?_;rintro e w1 ⟨rfl, rfl⟩;go_wp2;go_returns
   exact ⟨rfl, rfl⟩
 ·have e := may_no hm
  rw [if_pos hm];rw [e] at A;clear h hm e
  go_enter func99, ntmps99
  go_wp2_with fail;refine A.out.mono ?_;rintro e w1 ⟨rfl, rfl⟩;go_wp2;go_returns
  exact ⟨rfl, rfl⟩
def routeOff (r : Route) (n : Int) : Route × Int := if mayF 16 n ≠ 0 then (r, 3) else if r.l.getD n.toNat 0 = 0 then (r, 4) else (⟨r.l.set n.toNat 0, r.cpus⟩, 0)
theorem ooff_any (w : World) {r : Route} (h : RouteAt w F p r) (n : Int) : Calls prog 144 #[.pointer (some ⟨p, 0, none⟩), .int .i64 n] w fun e w' => e = .returned (.int .i64 (routeOff r n).2) ∧ RouteAt w' F p (routeOff r n).1 ∧ Ch F w w' ∧ w'.heap.size = w.heap.size := by
 have HT := Hd h;have A := Hd (omay_any w p n);unfold routeOff
 by_cases hm : mayF 16 n = 0
 ·obtain ⟨i, rfl, hi⟩ := may_yes hm
  rw [hm] at A
  rw [if_neg (by simp [hm])]
  have ci := h.cell hi
  have fi : w.frozen? ⟨p, i, none⟩ = false := h.head.frozen _
  simp only [Int.toNat_natCast]
  clear h hm;generalize r.l.getD i 0 = x at *
  by_cases hx : x = 0
  ·subst hx
   rw [if_pos rfl]
   go_enter func144, ntmps144
   go_wp2_with fail;refine A.out.mono ?_;rintro e w1 ⟨rfl, rfl⟩;go_wp2;go_returns
   exact ⟨rfl, HT.out, Ch.refl _ _, rfl⟩
  ·rw [if_neg hx]
   have hx' : (x == 0) = false := by simpa using hx
   clear hx
   go_enter func144, ntmps144
   go_wp2_with fail;refine A.out.mono ?_;rintro e w1 ⟨rfl, rfl⟩;go_wp2;go_returns
   exact ⟨rfl, HT.out.set hi 0 (by omega), (Ch.refl _ _).setCell (p := ⟨p, i, none⟩) (fun _ => HT.out.fp) _, by simp⟩
 ·have e := may_no hm
  rw [if_pos hm];rw [e] at A;clear h hm e
  go_enter func144, ntmps144
  go_wp2_with fail;refine A.out.mono ?_;rintro e w1 ⟨rfl, rfl⟩;go_wp2;go_returns
  exact ⟨rfl, HT.out, Ch.refl _ _, rfl⟩
def routeHits (r : Route) (cpu : Int) (n : Nat) : Bool := (routeOf r n).2 && decide ((routeOf r n).1 = cpu)
def routeTo (r : Route) (cpu : Int) (k : Nat) : List Int := ((List.range k).filter (routeHits r cpu)).map fun (n : Nat) => (n : Int)
def routeOn (r : Route) (cpu : Int) : List Int := routeTo r cpu 16
theorem routeTo_yes {r : Route} {cpu : Int} {k : Nat} (h : routeHits r cpu k = true) : routeTo r cpu (k + 1) = routeTo r cpu k ++ [(k : Int)] := by
 simp [routeTo, List.range_succ, List.filter_append, h]
theorem routeTo_no {r : Route} {cpu : Int} {k : Nat} (h : routeHits r cpu k = false) : routeTo r cpu (k + 1) = routeTo r cpu k := by
 simp [routeTo, List.range_succ, List.filter_append, h]
theorem routeTo_len (r : Route) (cpu : Int) (k : Nat) : (routeTo r cpu k).length ≤ k := by
 unfold routeTo;rw [List.length_map]
 exact Nat.le_trans (List.length_filter_le _ _) (by simp)
theorem oon_any (w : World) {r : Route} (h : RouteAt w F p r) (cpu : Int) : Calls prog 30 #[.pointer (some ⟨p, 0, none⟩), .int .i64 cpu] w fun e w' => (∃ v, e = .returned v ∧ IntsAt w' (New w) v (routeOn r cpu)) ∧ Below w.heap.size w w' := by
 have HS := Hd h;clear h
 go_enter func30, ntmps30
 go_wp2
 go_loopw [11, 6, 7, 8, 5] (fun iv _ _ _ lv wr => ∃ k : Nat, iv = .int .i64 k ∧ k ≤ 16 ∧ Hid (IntsAt wr (New w) lv (routeTo r cpu k)) ∧ Hid (Below w.heap.size w wr)) (fun iv _ _ _ _ _ => 16 - (intOf iv).toNat)
 case atStart => exact ⟨0, rfl, Nat.zero_le _, Hd (show IntsAt w (New w) _ [] from IntsAt.nil _ _), Hd (Below.refl _ _)⟩
 case round =>
  obtain ⟨k, rfl, hk, HL, HB⟩ := hrel;have hz := HB.out.size
  by_cases hlt : k < 16
  ·have A := Hd (oof_any wr (HS.out.below HB.out) (k : Int))
   have hle : (routeTo r cpu k).length ≤ 1099511627776 := by have := routeTo_len r cpu k; omega
   cases hh : routeHits r cpu k with
   | false =>
    have HH := Hd (routeTo_no hh);unfold routeHits at hh;generalize routeOf r (k : Int) = u at *;obtain ⟨at', ok⟩ := u;dsimp only at hh A
    cases ok with
    | false =>
     clear hh;go_wp2_with fail;refine A.out.mono ?_;rintro e w' ⟨rfl, rfl⟩;go_wp2;go_roundw
     case rel => exact ⟨k + 1, by go_num, hlt, Hd (by rw [HH.out]; exact HL.out), HB⟩
     case measure => simp [intOf]; omega
    | true =>
     have hne : (at' == cpu) = false := by simpa using hh
     clear hh;go_wp2_with fail;refine A.out.mono ?_;rintro e w' ⟨rfl, rfl⟩;go_wp2;go_roundw
     case rel => exact ⟨k + 1, by go_num, hlt, Hd (by rw [HH.out]; exact HL.out), HB⟩
     case measure => simp [intOf]; omega
   | true =>
    have HH := Hd (routeTo_yes hh);unfold routeHits at hh;generalize routeOf r (k : Int) = u at *;obtain ⟨at', ok⟩ := u;dsimp only at hh A
    simp only [Bool.and_eq_true, decide_eq_true_eq] at hh
    obtain ⟨rfl, rfl⟩ := hh;go_wp2_with fail;refine A.out.mono ?_;rintro e w' ⟨rfl, rfl⟩
    go_wp2_with (at_builtin; refine wpList_app1 (n := (k : Int)) rfl _ _ rfl (IntsAt.same HL.out ?_) (by rfl) (by rfl) ?_ hle ?_)
    ·exact (by (repeat (first | with_reducible exact Ch.refl _ _ | (with_reducible refine Ch.alloc ?_ _) | (with_reducible refine Ch.drew ?_) | (with_reducible refine Ch.drewN ?_ _))))
    ·exact cell_at1 _ _ rfl
    ·intro v' w1 h1 hc1
     replace h1 := Hd (h1.mono (New.plus (w := w) (by simp; omega)))
     replace hc1 := Hd (New.below HB.out ((show Ch (New w) wr _ from (by (repeat (first | with_reducible exact Ch.refl _ _ | (with_reducible refine Ch.alloc ?_ _) | (with_reducible refine Ch.drew ?_) | (with_reducible refine Ch.drewN ?_ _))))).trans hc1))
     clear HL HB;go_wp2;go_roundw
     case rel => exact ⟨k + 1, by go_num, hlt, Hd (by rw [HH.out]; exact h1.out), hc1⟩
     case measure => simp [intOf]; omega
  ·have : k = 16 := by omega
   subst this;go_wp2;go_returns
   exact ⟨⟨_, rfl, HL.out⟩, HB.out⟩
def route0 (cpus : Nat) : Route := ⟨List.replicate 16 0, cpus⟩
theorem onew_any (w : World) (cpus : Nat) (h1 : 1 ≤ cpus) (h64 : cpus ≤ 64) : Calls prog 58 #[.int .i64 cpus] w fun e w' => (∃ p, e = .returned (.tuple #[.pointer (some ⟨p, 0, none⟩), .int .i64 0]) ∧ RouteAt w' (Plus w w' (fun _ => False)) p (route0 cpus)) ∧ Below w.heap.size w w' := by
 go_enter func58, ntmps58
 go_wp2;go_returns
 refine ⟨⟨w.heap.size, rfl, ?_, .inr ⟨Nat.le_refl _, by simp⟩, by simp [route0], fun x hx => by have := List.eq_of_mem_replicate hx; omega, h64⟩, (Below.refl _ _).alloc (Nat.le_refl _) _⟩
 exact Blk.at _ _ rfl
def chooseM (want active : Nat) : Nat := if want &&& active = 0 then active else want &&& active
def chooseF (want active : Nat) (near : Int) : Int × Bool × Int :=
 if active = 0 then (0, false, 12) else
 if hasF (chooseM want active) near then (near, decide (want &&& active = 0), 0) else
 ((nextF (chooseM want active) near).1, decide (want &&& active = 0), (nextF (chooseM want active) near).2)
theorem choose_any (want active : Nat) (h1 : want < top64) (h2 : active < top64) (near : Int) (w : World) (hT : Tab w) : Calls prog 215 #[.int .u64 want, .int .u64 active, .int .i64 near] w fun e w' => e = .returned (.tuple #[.int .i64 (chooseF want active near).1, .bool (chooseF want active near).2.1, .int .i64 (chooseF want active near).2.2]) ∧ w = w' := by
 unfold chooseF
 by_cases h0 : active = 0
 ·subst h0
  rw [if_pos rfl]
  go_enter func215, ntmps215
  go_wp2;go_returns
  exact ⟨rfl, rfl⟩
 ·rw [if_neg h0]
  have h0' : ((active : Int) == 0) = false := by simpa using h0
  have A := Hd (and_any want active h1 h2 w)
  have hlt : want &&& active < top64 := Nat.lt_of_le_of_lt Nat.and_le_left h1
  by_cases hf : want &&& active = 0
  ·have hm : chooseM want active = active := by unfold chooseM; rw [if_pos hf]
   rw [hm, decide_eq_true hf];rw [hf] at A;have B := Hd (has_any active h2 near w);have C := Hd (next_any active h2 near w hT);generalize hasF active near = hb at *;generalize nextF active near = nx at *;clear h0 hf hm
   cases hb with
   | true =>
    rw [if_pos rfl]
    go_enter func215, ntmps215
    go_wp2_with fail;refine A.out.mono ?_;rintro e w1 ⟨rfl, rfl⟩;go_wp2_with fail;refine B.out.mono ?_;rintro e w1 ⟨rfl, rfl⟩;go_wp2;go_returns
    exact ⟨rfl, rfl⟩
   | false =>
    rw [if_neg (by simp)]
    go_enter func215, ntmps215
    go_wp2_with fail;refine A.out.mono ?_;rintro e w1 ⟨rfl, rfl⟩;go_wp2_with fail;refine B.out.mono ?_;rintro e w1 ⟨rfl, rfl⟩;go_wp2_with fail;refine C.out.mono ?_;rintro e w1 ⟨rfl, rfl⟩;go_wp2;go_returns
    exact ⟨rfl, rfl⟩
  ·have hm : chooseM want active = want &&& active := by unfold chooseM; rw [if_neg hf]
   have hf' : (((want &&& active : Nat) : Int) == 0) = false := by simpa using hf
   rw [hm, decide_eq_false hf];generalize want &&& active = u at *;have B := Hd (has_any u hlt near w);have C := Hd (next_any u hlt near w hT);generalize hasF u near = hb at *;generalize nextF u near = nx at *;clear h0 hf hm
   cases hb with
   | true =>
    rw [if_pos rfl]
    go_enter func215, ntmps215
    go_wp2_with fail;refine A.out.mono ?_;rintro e w1 ⟨rfl, rfl⟩;go_wp2_with fail;refine B.out.mono ?_;rintro e w1 ⟨rfl, rfl⟩;go_wp2;go_returns
    exact ⟨rfl, rfl⟩
   | false =>
    rw [if_neg (by simp)]
    go_enter func215, ntmps215
    go_wp2_with fail;refine A.out.mono ?_;rintro e w1 ⟨rfl, rfl⟩;go_wp2_with fail;refine B.out.mono ?_;rintro e w1 ⟨rfl, rfl⟩;go_wp2_with fail;refine C.out.mono ?_;rintro e w1 ⟨rfl, rfl⟩;go_wp2;go_returns
    exact ⟨rfl, rfl⟩
def wrongF (active mask : Nat) (cpu : Int) (forced : Bool) : Bool :=
 if !hasF active cpu then true else if !hasF mask cpu && decide (mask &&& active ≠ 0) then true else forced == hasF mask cpu
theorem wrong_any (active mask : Nat) (h1 : active < top64) (h2 : mask < top64) (id cpu : Int) (forced : Bool) (w : World) : Calls prog 220 #[.int .u64 active, .agg #[.int .i64 id, .int .u64 mask, .int .i64 cpu, .bool forced]] w fun e w' => e = .returned (.bool (wrongF active mask cpu forced)) ∧ Below w.heap.size w w' := by
 have hb0 := Hd ((Below.refl w.heap.size w).alloc (Nat.le_refl _) (.cells #[.int .i64 id, .int .u64 mask, .int .i64 cpu, .bool forced] 320))
 have A := Hd (fun w => has_any mask h2 cpu w);have B := Hd (fun w => has_any active h1 cpu w);have C := Hd (fun w => and_any mask active h2 h1 w);unfold wrongF;generalize hasF mask cpu = hm at *;generalize hasF active cpu = ha at *
 cases ha with
 | false =>
  go_enter func220, ntmps220
  go_wp2_with fail;refine (A.out _).mono ?_;rintro e w1 ⟨rfl, rfl⟩;go_wp2_with fail;refine (B.out _).mono ?_;rintro e w1 ⟨rfl, rfl⟩;go_wp2;go_returns
  exact ⟨rfl, hb0.out⟩
 | true =>
  cases hm with
  | true =>
   go_enter func220, ntmps220
   go_wp2_with fail;refine (A.out _).mono ?_;rintro e w1 ⟨rfl, rfl⟩;go_wp2_with fail;refine (B.out _).mono ?_;rintro e w1 ⟨rfl, rfl⟩;go_wp2;go_returns
   exact ⟨by simp, hb0.out⟩
  | false =>
   by_cases hz : mask &&& active = 0
   ·rw [hz] at C
    have e : decide (mask &&& active ≠ 0) = false := by simpa using hz
    rw [e];clear hz e
    go_enter func220, ntmps220
    go_wp2_with fail;refine (A.out _).mono ?_;rintro e w1 ⟨rfl, rfl⟩;go_wp2_with fail;refine (B.out _).mono ?_;rintro e w1 ⟨rfl, rfl⟩;go_wp2_with fail;refine (C.out _).mono ?_;rintro e w1 ⟨rfl, rfl⟩;go_wp2;go_returns
    exact ⟨by simp, hb0.out⟩
   ·have e : decide (mask &&& active ≠ 0) = true := by simpa using hz
    have hz' : (((mask &&& active : Nat) : Int) != 0) = true := by simpa using hz
    rw [e];generalize mask &&& active = u at *;clear hz e
    go_enter func220, ntmps220
    go_wp2_with fail;refine (A.out _).mono ?_;rintro e w1 ⟨rfl, rfl⟩;go_wp2_with fail;refine (B.out _).mono ?_;rintro e w1 ⟨rfl, rfl⟩;go_wp2_with fail;refine (C.out _).mono ?_;rintro e w1 ⟨rfl, rfl⟩;go_wp2;go_returns
    exact ⟨by simp, hb0.out⟩
def tableCells : Array Value := #[.int .i64 0, .int .i64 0, .int .i64 100, .int .i64 2, .int .i64 10, .int .i64 60, .int .i64 10, .int .i64 50, .int .i64 25, .int .i64 50, .int .i64 400, .int .i64 5]
theorem table_any (w : World) : Calls prog 10 #[] w fun e w' => e = .returned (.slice (some ⟨w.heap.size, 0, none⟩) 4 4) ∧ w' = w.alloc (.cells tableCells 45) := by
 go_enter func10, ntmps10
 go_wp2;go_returns
 exact ⟨rfl, rfl⟩
def wayF (rest limit : Int) : Int := if 50 ≤ limit ∧ 400 ≤ rest then 3 else if 10 ≤ limit ∧ 50 ≤ rest then 2 else if 2 ≤ limit ∧ 10 ≤ rest then 1 else 0
theorem way_any (rest limit : Int) (w : World) (b : Nat) (h : Blk w b tableCells 45) : Calls prog 200 #[.slice (some ⟨b, 0, none⟩) 4 4, .int .i64 rest, .int .i64 limit] w fun e w' => e = .returned (.int .i64 (wayF rest limit)) ∧ w = w' := by
 have k0 : w.cell? ⟨b, 0, none⟩ = some (.int .i64 0) := h.cell 0
 have k3 : w.cell? ⟨b, 3, none⟩ = some (.int .i64 2) := h.cell 3
 have k4 : w.cell? ⟨b, 4, none⟩ = some (.int .i64 10) := h.cell 4
 have k6 : w.cell? ⟨b, 6, none⟩ = some (.int .i64 10) := h.cell 6
 have k7 : w.cell? ⟨b, 7, none⟩ = some (.int .i64 50) := h.cell 7
 have k9 : w.cell? ⟨b, 9, none⟩ = some (.int .i64 50) := h.cell 9
 have k10 : w.cell? ⟨b, 10, none⟩ = some (.int .i64 400) := h.cell 10
 clear h;unfold wayF
 by_cases h3 : 50 ≤ limit ∧ 400 ≤ rest
 ·rw [if_pos h3]
  obtain ⟨h1, h2⟩ := h3
  go_enter func200, ntmps200
  go_wp2
  refine wp_loop_rounds 4 ?_
  rw [rounds_succ];go_wp2;go_returns
  exact ⟨rfl, rfl⟩
 ·rw [if_neg h3]
  by_cases h2 : 10 ≤ limit ∧ 50 ≤ rest
  ·rw [if_pos h2]
   obtain ⟨h1, h2⟩ := h2
   rcases (by omega : ¬ 50 ≤ limit ∨ (50 ≤ limit ∧ ¬ 400 ≤ rest)) with h4 | ⟨h4, h5⟩
   all_goals
    clear h3
    go_enter func200, ntmps200
    go_wp2
    refine wp_loop_rounds 4 ?_
    rw [rounds_succ];go_wp2;rw [rounds_succ];go_wp2;go_returns
    exact ⟨rfl, rfl⟩
  ·rw [if_neg h2]
   by_cases h1 : 2 ≤ limit ∧ 10 ≤ rest
   ·rw [if_pos h1]
    obtain ⟨h6, h7⟩ := h1
    rcases (by omega : (¬ 10 ≤ limit) ∨ (10 ≤ limit ∧ ¬ 50 ≤ limit ∧ ¬ 50 ≤ rest) ∨ (50 ≤ limit ∧ ¬ 50 ≤ rest)) with h4 | ⟨h4, h5, h8⟩ | ⟨h4, h5⟩
    all_goals
     clear h3 h2
     go_enter func200, ntmps200
     go_wp2
     refine wp_loop_rounds 4 ?_
     rw [rounds_succ];go_wp2;rw [rounds_succ];go_wp2;rw [rounds_succ];go_wp2;go_returns
     exact ⟨rfl, rfl⟩
   ·rw [if_neg h1]
    rcases (by omega : (¬ 2 ≤ limit) ∨ (2 ≤ limit ∧ ¬ 10 ≤ limit ∧ ¬ 10 ≤ rest) ∨ (10 ≤ limit ∧ ¬ 50 ≤ limit ∧ ¬ 10 ≤ rest) ∨ (50 ≤ limit ∧ ¬ 10 ≤ rest)) with h4 | ⟨h4, h5, h6⟩ | ⟨h4, h5, h6⟩ | ⟨h4, h5⟩
    all_goals
     clear h3 h2 h1
     go_enter func200, ntmps200
     go_wp2
     refine wp_loop_rounds 4 ?_
     rw [rounds_succ];go_wp2;rw [rounds_succ];go_wp2;rw [rounds_succ];go_wp2;rw [rounds_succ];go_wp2;go_returns
     exact ⟨rfl, rfl⟩
def predF (now due : Int) (known : Bool) : Int := if known then (if now < 0 ∨ due ≤ now then 0 else min (due - now) 1073741824) else 1073741824
theorem pred_any (now due : Int) (known : Bool) (h1 : now ≤ 1152921504606846976) (h2 : 0 ≤ due ∧ due ≤ 1152921504606846976) (w : World) : Calls prog 198 #[.int .i64 now, .int .i64 due, .bool known] w fun e w' => e = .returned (.int .i64 (predF now due known)) ∧ w = w' := by
 unfold predF
 cases known with
 | false =>
  go_enter func198, ntmps198
  go_wp2;go_returns
  exact ⟨rfl, rfl⟩
 | true =>
  rw [if_pos rfl]
  by_cases h : now < 0 ∨ due ≤ now
  ·rw [if_pos h]
   rcases (by omega : now < 0 ∨ (¬ now < 0 ∧ due ≤ now)) with h3 | ⟨h3, h4⟩
   all_goals
    clear h
    go_enter func198, ntmps198
    go_wp2;go_returns
    exact ⟨rfl, rfl⟩
  ·rw [if_neg h]
   have h3 : ¬ now < 0 ∧ ¬ due ≤ now := by omega
   obtain ⟨h3, h4⟩ := h3;clear h
   have hmin := fun ats ty a b => min_two ats ty a b
   have hmin2 := fun k k' x y => min2_int k k' x y
   go_enter func198, ntmps198
   go_wp2
   all_goals
    go_returns
    refine ⟨?_, rfl⟩
    first
     | (rw [Int.min_eq_right (by omega)]; rfl)
     | (rw [Int.min_eq_left (by omega)]; rfl)
section
open Go.Proofs.YtiocbpabbjgkhaaGreatDoor.NumD Go.Proofs.YtiocbpabbjgkhaaGreatDoor.NumE
def goodF (b a : Int) : Prop := 0 ≤ b ∧ b ≤ a ∧ a ≤ 1099511627776
structure Feeds where
 b0 : Int
 a0 : Int
 b1 : Int
 a1 : Int
 b2 : Int
 a2 : Int
 b3 : Int
 a3 : Int
structure Feeds.ok (f : Feeds) : Prop where
 g0 : goodF f.b0 f.a0
 g1 : goodF f.b1 f.a1
 g2 : goodF f.b2 f.a2
 g3 : goodF f.b3 f.a3
def govCells (lo hi : Int) (f : Feeds) (i : Nat) : Array Value := #[.int .i64 lo, .int .i64 hi, .int .i64 f.b0, .int .i64 f.a0, .int .i64 f.b1, .int .i64 f.a1, .int .i64 f.b2, .int .i64 f.a2, .int .i64 f.b3, .int .i64 f.a3, .int .i64 i]
def rightG (lo hi : Int) : Bool := decide (1 ≤ lo) && decide (hi ≤ 100000) && decide (lo ≤ hi)
structure GovAtQ (w : World) (F : Nat → Prop) (p : Nat) (s : Int × Int) (f : Feeds) (i : Nat) : Prop where
 head : Blk w p (govCells s.1 s.2 f i) 168
 fp : F p
 ok : f.ok
 i4 : i < 4
 rt : rightG s.1 s.2 = true
def GovAt (w : World) (F : Nat → Prop) (p : Nat) (s : Int × Int) : Prop := ∃ f i, GovAtQ w F p s f i
theorem GovAt.ch {F G : Nat → Prop} {s : Int × Int} (h : GovAt w F p s) (hc : Ch G w w') (hd : ∀ b, F b → ¬ G b) : GovAt w' F p s := by
 obtain ⟨f, i, h⟩ := h
 exact ⟨f, i, h.head.ch hc (hd _ h.fp), h.fp, h.ok, h.i4, h.rt⟩
theorem GovAt.mono {F G : Nat → Prop} {s : Int × Int} (h : GovAt w F p s) (hd : ∀ b, F b → G b) : GovAt w G p s := by
 obtain ⟨f, i, h⟩ := h
 exact ⟨f, i, h.head, hd _ h.fp, h.ok, h.i4, h.rt⟩
theorem ownG : Ownable GovAt := ⟨GovAt.ch, fun h hd _ => h.mono hd⟩
theorem GovAt.below {s : Int × Int} (h : GovAt w F p s) (hb : Below w.heap.size w w') : GovAt w' F p s := h.ch (Ch.off hb) (fun _ _ h => h)
theorem rightG_iff {lo hi : Int} (h : rightG lo hi = true) : 1 ≤ lo ∧ hi ≤ 100000 ∧ lo ≤ hi := by
 unfold rightG at h
 simp at h
 omega
theorem vright_any (lo hi : Int) (w : World) : Calls prog 117 #[.int .i64 lo, .int .i64 hi] w fun e w' => e = .returned (.bool (rightG lo hi)) ∧ w = w' := by
 rcases (by omega : lo < 1 ∨ (1 ≤ lo ∧ 100000 < hi) ∨ (1 ≤ lo ∧ hi ≤ 100000)) with a | ⟨a, b⟩ | ⟨a, b⟩
 ·have e : rightG lo hi = false := by simp [rightG]; omega
  rw [e];clear e
  go_enter func117, ntmps117
  go_wp2;go_returns
  exact ⟨rfl, rfl⟩
 ·have e : rightG lo hi = false := by simp [rightG]; omega
  rw [e];clear e
  go_enter func117, ntmps117
  go_wp2;go_returns
  exact ⟨rfl, rfl⟩
 ·have e : rightG lo hi = decide (lo ≤ hi) := by simp [rightG, a, b]
  rw [e];clear e
  go_enter func117, ntmps117
  go_wp2;go_returns
  exact ⟨rfl, rfl⟩
theorem vlimits_any (w : World) {s : Int × Int} (h : GovAt w F p s) : Calls prog 15 #[.pointer (some ⟨p, 0, none⟩)] w fun e w' => e = .returned (.tuple #[.int .i64 s.1, .int .i64 s.2]) ∧ ∃ n, w' = w.drewN n := by
 obtain ⟨f, i, h⟩ := h
 have c0 : w.cell? ⟨p, 0, none⟩ = some (.int .i64 s.1) := h.head.cell 0
 have c1 : w.cell? ⟨p, 1, none⟩ = some (.int .i64 s.2) := h.head.cell 1
 clear h
 go_enter func15, ntmps15
 go_wp2;go_quiet (fail)
 try go_wp2
 go_returns
 exact ⟨rfl, _, rfl⟩
theorem vbusy_any (w : World) {s : Int × Int} (h : GovAt w F p s) : Calls prog 91 #[.pointer (some ⟨p, 0, none⟩)] w fun e w' => (∃ b, e = .returned (.int .i64 b) ∧ 0 ≤ b ∧ b ≤ 100) ∧ Below w.heap.size w w' := by
 obtain ⟨f, i, h⟩ := h;have ok := h.ok
 have c2 : w.cell? ⟨p, 2, none⟩ = some (.int .i64 f.b0) := h.head.cell 2
 have c3 : w.cell? ⟨p, 3, none⟩ = some (.int .i64 f.a0) := h.head.cell 3
 have c4 : w.cell? ⟨p, 4, none⟩ = some (.int .i64 f.b1) := h.head.cell 4
 have c5 : w.cell? ⟨p, 5, none⟩ = some (.int .i64 f.a1) := h.head.cell 5
 have c6 : w.cell? ⟨p, 6, none⟩ = some (.int .i64 f.b2) := h.head.cell 6
 have c7 : w.cell? ⟨p, 7, none⟩ = some (.int .i64 f.a2) := h.head.cell 7
 have c8 : w.cell? ⟨p, 8, none⟩ = some (.int .i64 f.b3) := h.head.cell 8
 have c9 : w.cell? ⟨p, 9, none⟩ = some (.int .i64 f.a3) := h.head.cell 9
 have hlt := h.head.lt;clear h;obtain ⟨b0, a0, b1, a1, b2, a2, b3, a3⟩ := f
 obtain ⟨⟨g00, g01, g02⟩, ⟨g10, g11, g12⟩, ⟨g20, g21, g22⟩, ⟨g30, g31, g32⟩⟩ := ok
 simp only [] at *
 have s0 : wrap64 b0 = b0 := by unfold wrap64; omega
 have s1 : wrap64 (b0 + b1) = b0 + b1 := by unfold wrap64; omega
 have s2 : wrap64 (b0 + b1 + b2) = b0 + b1 + b2 := by unfold wrap64; omega
 have s3 : wrap64 (b0 + b1 + b2 + b3) = b0 + b1 + b2 + b3 := by unfold wrap64; omega
 have t0 : wrap64 a0 = a0 := by unfold wrap64; omega
 have t1 : wrap64 (a0 + a1) = a0 + a1 := by unfold wrap64; omega
 have t2 : wrap64 (a0 + a1 + a2) = a0 + a1 + a2 := by unfold wrap64; omega
 have t3 : wrap64 (a0 + a1 + a2 + a3) = a0 + a1 + a2 + a3 := by unfold wrap64; omega
 have hB := Hd (show In64 (b0 + b1 + b2 + b3) from ⟨by omega, by omega⟩)
 have hA := Hd (show In64 (a0 + a1 + a2 + a3) from ⟨by omega, by omega⟩)
 have hP : ∀ p q : Int, 0 ≤ percentF p q ∧ percentF p q ≤ 100 := fun p q => by
  unfold percentF
  split
  ·omega
  ·split
   ·omega
   ·rename_i h1 h2
    refine ⟨Int.natCast_nonneg _, ?_⟩
    have : p.toNat * 100 / q.toNat ≤ 100 := by
     exact Nat.div_le_of_le_mul (Nat.mul_le_mul_right _ (by omega))
    omega
 replace hP := Hd hP
 have i0 : ∀ w : World, (Instr.index 166 (.agg #[.int .i64 b0, .int .i64 a0, .int .i64 b1, .int .i64 a1, .int .i64 b2, .int .i64 a2, .int .i64 b3, .int .i64 a3]) (.int .i64 0)).run prog w = .ok (.agg #[.int .i64 b0, .int .i64 a0]) w := fun _ => by kernel_rfl
 have i1 : ∀ w : World, (Instr.index 166 (.agg #[.int .i64 b0, .int .i64 a0, .int .i64 b1, .int .i64 a1, .int .i64 b2, .int .i64 a2, .int .i64 b3, .int .i64 a3]) (.int .i64 1)).run prog w = .ok (.agg #[.int .i64 b1, .int .i64 a1]) w := fun _ => by kernel_rfl
 have i2 : ∀ w : World, (Instr.index 166 (.agg #[.int .i64 b0, .int .i64 a0, .int .i64 b1, .int .i64 a1, .int .i64 b2, .int .i64 a2, .int .i64 b3, .int .i64 a3]) (.int .i64 2)).run prog w = .ok (.agg #[.int .i64 b2, .int .i64 a2]) w := fun _ => by kernel_rfl
 have i3 : ∀ w : World, (Instr.index 166 (.agg #[.int .i64 b0, .int .i64 a0, .int .i64 b1, .int .i64 a1, .int .i64 b2, .int .i64 a2, .int .i64 b3, .int .i64 a3]) (.int .i64 3)).run prog w = .ok (.agg #[.int .i64 b3, .int .i64 a3]) w := fun _ => by kernel_rfl
 clear g00 g01 g02 g10 g11 g12 g20 g21 g22 g30 g31 g32
 go_enter func91, ntmps91
 go_wp2
 refine wp_loop_rounds 5 ?_
 iterate 5 (rw [rounds_succ]; go_wp2_with fail)
 refine (percent_any _ _ hB.out hA.out _).mono ?_;rintro e w1 ⟨rfl, n, hn⟩;rw [hn];clear hn;go_wp2;go_returns
 refine ⟨⟨_, rfl, hP.out _ _⟩, below_drewN ?_ _⟩
 go_grown
theorem scaleF_in {lo hi p : Int} (h : lo ≤ hi) : lo ≤ scaleF lo hi p ∧ scaleF lo hi p ≤ hi := by
 unfold scaleF
 split
 ·omega
 ·split
  ·omega
  ·rename_i h1 h2
   have h3 : (hi - lo).toNat * p.toNat / 100 ≤ (hi - lo).toNat := by
    refine Nat.div_le_of_le_mul ?_
    rw [Nat.mul_comm 100]
    exact Nat.mul_le_mul_left _ (by omega)
   omega
theorem vfreq_any (w : World) {s : Int × Int} (h : GovAt w F p s) : Calls prog 16 #[.pointer (some ⟨p, 0, none⟩)] w fun e w' => (∃ f, e = .returned (.int .i64 f) ∧ s.1 ≤ f ∧ f ≤ s.2) ∧ Below w.heap.size w w' := by
 have A := Hd (vlimits_any w h)
 have B := fun n => Hd (vbusy_any (w.drewN n) (h.below (belowN w n)))
 have hr : rightG s.1 s.2 = true := by obtain ⟨f, i, h⟩ := h; exact h.rt
 have hri := rightG_iff hr
 obtain ⟨lo, hi⟩ := s;dsimp only at *;clear h hr
 have hlo : In64 lo := ⟨by omega, by omega⟩
 have hhi : In64 hi := ⟨by omega, by omega⟩
 have hsc := Hd (fun p => scaleF_in (lo := lo) (hi := hi) (p := p) hri.2.2)
 replace hlo := Hd hlo;replace hhi := Hd hhi;clear hri
 go_enter func16, ntmps16
 go_wp2_with fail;refine A.out.mono ?_;rintro e w1 ⟨rfl, n, rfl⟩;go_wp2_with fail;refine (B n).out.mono ?_;rintro e w2 ⟨⟨b, rfl, hb1, hb2⟩, hb⟩;have C := Hd (scale_any lo hi b hlo.out hhi.out ⟨by omega, by omega⟩ w2)
 replace hb := Hd ((belowN w n).trans hb)
 go_wp2_with fail;refine C.out.mono ?_;rintro e w3 ⟨rfl, n, rfl⟩;go_wp2;go_returns
 exact ⟨⟨_, rfl, hsc.out b⟩, hb.out.trans ((belowN w2 n).mono hb.out.size)⟩
theorem vset_any (w : World) {s : Int × Int} (h : GovAt w F p s) (lo hi : Int) : Calls prog 246 #[.pointer (some ⟨p, 0, none⟩), .int .i64 lo, .int .i64 hi] w fun e w' => e = .returned (.int .i64 (if rightG lo hi then 0 else 2)) ∧ GovAt w' F p (if rightG lo hi then (lo, hi) else s) ∧ Ch F w w' ∧ w'.heap.size = w.heap.size := by
 have A := Hd (vright_any lo hi w);have HT := Hd h;obtain ⟨f, i, h⟩ := h
 have c0 : w.cell? ⟨p, 0, none⟩ = some (.int .i64 s.1) := h.head.cell 0
 have c1 : w.cell? ⟨p, 1, none⟩ = some (.int .i64 s.2) := h.head.cell 1
 have f0 : w.frozen? ⟨p, 0, none⟩ = false := h.head.frozen 0
 have f1 : w.frozen? ⟨p, 1, none⟩ = false := h.head.frozen 1
 have H := Hd h;clear h
 cases hr : rightG lo hi with
 | false =>
  rw [hr] at A;clear hr
  go_enter func246, ntmps246
  go_wp2_with fail;refine A.out.mono ?_;rintro e w1 ⟨rfl, rfl⟩;go_wp2;go_returns
  exact ⟨rfl, HT.out, Ch.refl _ _, rfl⟩
 | true =>
  rw [hr] at A;replace hr := Hd hr
  go_enter func246, ntmps246
  go_wp2_with fail;refine A.out.mono ?_;rintro e w1 ⟨rfl, rfl⟩;go_wp2;go_returns
  refine ⟨rfl, ⟨f, i, ?_, H.out.fp, H.out.ok, H.out.i4, hr.out⟩, ((Ch.refl _ w).setCell (p := ⟨p, 0, none⟩) (fun _ => H.out.fp) _).setCell (p := ⟨p, 1, none⟩) (fun _ => H.out.fp) _, by simp⟩
  exact (H.out.head.set 0 _).set 1 _
theorem vnew_any (w : World) (lo hi : Int) (hr : rightG lo hi = true) : Calls prog 74 #[.int .i64 lo, .int .i64 hi] w fun e w' => (∃ p, e = .returned (.tuple #[.pointer (some ⟨p, 0, none⟩), .int .i64 0]) ∧ GovAt w' (Plus w w' (fun _ => False)) p (lo, hi)) ∧ Below w.heap.size w w' := by
 have A := vright_any lo hi w
 rw [hr] at A;replace A := Hd A;replace hr := Hd hr
 go_enter func74, ntmps74
 go_wp2_with fail;refine A.out.mono ?_;rintro e w1 ⟨rfl, rfl⟩;go_wp2;go_returns
 exact ⟨⟨w.heap.size, rfl, ⟨0, 0, 0, 0, 0, 0, 0, 0⟩, 0, Blk.at _ _ rfl, .inr ⟨Nat.le_refl _, by simp⟩, ⟨by simp [goodF], by simp [goodF], by simp [goodF], by simp [goodF]⟩, by omega, hr.out⟩, (Below.refl _ _).alloc (Nat.le_refl _) _⟩
def Fed (e : Ending) : Prop := ∃ a b : Int, e = .returned (.tuple #[.int .i64 a, .int .i64 b]) ∧ 0 ≤ a ∧ a ≤ 100000
theorem vfeed_any (w : World) {s : Int × Int} (h : GovAt w F p s) (busy all : Int) : Calls prog 210 #[.pointer (some ⟨p, 0, none⟩), .int .i64 busy, .int .i64 all] w fun e w' => Fed e ∧ GovAt w' F p s ∧ Ch F w w' := by
 have HT := Hd h
 by_cases hbad : busy < 0 ∨ all < busy ∨ 1099511627776 < all
 ·clear h
  rcases (by omega : busy < 0 ∨ (¬ busy < 0 ∧ all < busy) ∨ (¬ busy < 0 ∧ ¬ all < busy ∧ 1099511627776 < all)) with h1 | ⟨h1, h2⟩ | ⟨h1, h2, h3⟩
  all_goals
   clear hbad
   go_enter func210, ntmps210
   go_wp2;go_returns
   exact ⟨⟨0, 2, rfl, by omega, by omega⟩, HT.out, Ch.refl _ _⟩
 ·have hg : goodF busy all := by unfold goodF; omega
  replace hg := Hd hg
  obtain ⟨h1, h2, h3⟩ : ¬ busy < 0 ∧ ¬ all < busy ∧ ¬ 1099511627776 < all := by omega
  clear hbad;obtain ⟨f, i, h⟩ := h
  have hr := rightG_iff h.rt
  have B := Hd (fun (w' : World) (hg : GovAt w' F p s) => vfreq_any w' hg)
  have H := Hd h
  have hri : Hid (∀ f, s.1 ≤ f ∧ f ≤ s.2 → 0 ≤ f ∧ f ≤ 100000) := Hd (fun f h => by omega)
  have k10 : w.cell? ⟨p, 10, none⟩ = some (.int .i64 i) := h.head.cell 10
  have f10 : w.frozen? ⟨p, 10, none⟩ = false := h.head.frozen 10
  rcases (by have := h.i4; omega : i = 0 ∨ i = 1 ∨ i = 2 ∨ i = 3) with rfl | rfl | rfl | rfl
  ·have kb : w.cell? ⟨p, 2, none⟩ = some (.int .i64 f.b0) := h.head.cell 2
   have ka : w.cell? ⟨p, 3, none⟩ = some (.int .i64 f.a0) := h.head.cell 3
   have fb : w.frozen? ⟨p, 2, none⟩ = false := h.head.frozen 2
   have fa : w.frozen? ⟨p, 3, none⟩ = false := h.head.frozen 3
   clear h hr
   go_enter func210, ntmps210
   go_wp2
   go_region
   go_wp2_with fail
   have X : GovAt (((w.drew.setCell ⟨p, 2, none⟩ (.int .i64 busy)).setCell ⟨p, 3, none⟩ (.int .i64 all)).setCell ⟨p, 10, none⟩ (.int .i64 1)) F p s := ⟨⟨busy, all, f.b1, f.a1, f.b2, f.a2, f.b3, f.a3⟩, 1, ((H.out.head.drew.set 2 _).set 3 _).set 10 _, H.out.fp, ⟨hg.out, H.out.ok.g1, H.out.ok.g2, H.out.ok.g3⟩, by omega, H.out.rt⟩
   refine (B.out _ X).mono ?_;rintro e w2 ⟨⟨fr, rfl, hfr⟩, hb⟩;have X2 := Hd (X.below hb)
   have hc : Hid (Ch F w w2) := Hd (((((Ch.refl F w).drew.setCell (p := ⟨p, 2, none⟩) (fun _ => H.out.fp) _).setCell (p := ⟨p, 3, none⟩) (fun _ => H.out.fp) _).setCell (p := ⟨p, 10, none⟩) (fun _ => H.out.fp) _).trans (Ch.of_below hb))
   replace hfr := Hd hfr;clear X hb;go_wp2;go_returns
   exact ⟨⟨_, _, rfl, hri.out _ hfr.out⟩, X2.out, hc.out⟩
  ·have kb : w.cell? ⟨p, 4, none⟩ = some (.int .i64 f.b1) := h.head.cell 4
   have ka : w.cell? ⟨p, 5, none⟩ = some (.int .i64 f.a1) := h.head.cell 5
   have fb : w.frozen? ⟨p, 4, none⟩ = false := h.head.frozen 4
   have fa : w.frozen? ⟨p, 5, none⟩ = false := h.head.frozen 5
   clear h hr
   go_enter func210, ntmps210
   go_wp2
   go_region
   go_wp2_with fail
   have X : GovAt (((w.drew.setCell ⟨p, 4, none⟩ (.int .i64 busy)).setCell ⟨p, 5, none⟩ (.int .i64 all)).setCell ⟨p, 10, none⟩ (.int .i64 2)) F p s := ⟨⟨f.b0, f.a0, busy, all, f.b2, f.a2, f.b3, f.a3⟩, 2, ((H.out.head.drew.set 4 _).set 5 _).set 10 _, H.out.fp, ⟨H.out.ok.g0, hg.out, H.out.ok.g2, H.out.ok.g3⟩, by omega, H.out.rt⟩
   refine (B.out _ X).mono ?_;rintro e w2 ⟨⟨fr, rfl, hfr⟩, hb⟩;have X2 := Hd (X.below hb)
   have hc : Hid (Ch F w w2) := Hd (((((Ch.refl F w).drew.setCell (p := ⟨p, 4, none⟩) (fun _ => H.out.fp) _).setCell (p := ⟨p, 5, none⟩) (fun _ => H.out.fp) _).setCell (p := ⟨p, 10, none⟩) (fun _ => H.out.fp) _).trans (Ch.of_below hb))
   replace hfr := Hd hfr;clear X hb;go_wp2;go_returns
   exact ⟨⟨_, _, rfl, hri.out _ hfr.out⟩, X2.out, hc.out⟩
  ·have kb : w.cell? ⟨p, 6, none⟩ = some (.int .i64 f.b2) := h.head.cell 6
   have ka : w.cell? ⟨p, 7, none⟩ = some (.int .i64 f.a2) := h.head.cell 7
   have fb : w.frozen? ⟨p, 6, none⟩ = false := h.head.frozen 6
   have fa : w.frozen? ⟨p, 7, none⟩ = false := h.head.frozen 7
   clear h hr
   go_enter func210, ntmps210
   go_wp2
   go_region
   go_wp2_with fail
   have X : GovAt (((w.drew.setCell ⟨p, 6, none⟩ (.int .i64 busy)).setCell ⟨p, 7, none⟩ (.int .i64 all)).setCell ⟨p, 10, none⟩ (.int .i64 3)) F p s := ⟨⟨f.b0, f.a0, f.b1, f.a1, busy, all, f.b3, f.a3⟩, 3, ((H.out.head.drew.set 6 _).set 7 _).set 10 _, H.out.fp, ⟨H.out.ok.g0, H.out.ok.g1, hg.out, H.out.ok.g3⟩, by omega, H.out.rt⟩
   refine (B.out _ X).mono ?_;rintro e w2 ⟨⟨fr, rfl, hfr⟩, hb⟩;have X2 := Hd (X.below hb)
   have hc : Hid (Ch F w w2) := Hd (((((Ch.refl F w).drew.setCell (p := ⟨p, 6, none⟩) (fun _ => H.out.fp) _).setCell (p := ⟨p, 7, none⟩) (fun _ => H.out.fp) _).setCell (p := ⟨p, 10, none⟩) (fun _ => H.out.fp) _).trans (Ch.of_below hb))
   replace hfr := Hd hfr;clear X hb;go_wp2;go_returns
   exact ⟨⟨_, _, rfl, hri.out _ hfr.out⟩, X2.out, hc.out⟩
  ·have kb : w.cell? ⟨p, 8, none⟩ = some (.int .i64 f.b3) := h.head.cell 8
   have ka : w.cell? ⟨p, 9, none⟩ = some (.int .i64 f.a3) := h.head.cell 9
   have fb : w.frozen? ⟨p, 8, none⟩ = false := h.head.frozen 8
   have fa : w.frozen? ⟨p, 9, none⟩ = false := h.head.frozen 9
   clear h hr
   go_enter func210, ntmps210
   go_wp2
   go_region
   go_wp2_with fail
   have X : GovAt (((w.drew.setCell ⟨p, 8, none⟩ (.int .i64 busy)).setCell ⟨p, 9, none⟩ (.int .i64 all)).setCell ⟨p, 10, none⟩ (.int .i64 0)) F p s := ⟨⟨f.b0, f.a0, f.b1, f.a1, f.b2, f.a2, busy, all⟩, 0, ((H.out.head.drew.set 8 _).set 9 _).set 10 _, H.out.fp, ⟨H.out.ok.g0, H.out.ok.g1, H.out.ok.g2, hg.out⟩, by omega, H.out.rt⟩
   refine (B.out _ X).mono ?_;rintro e w2 ⟨⟨fr, rfl, hfr⟩, hb⟩;have X2 := Hd (X.below hb)
   have hc : Hid (Ch F w w2) := Hd (((((Ch.refl F w).drew.setCell (p := ⟨p, 8, none⟩) (fun _ => H.out.fp) _).setCell (p := ⟨p, 9, none⟩) (fun _ => H.out.fp) _).setCell (p := ⟨p, 10, none⟩) (fun _ => H.out.fp) _).trans (Ch.of_below hb))
   replace hfr := Hd hfr;clear X hb;go_wp2;go_returns
   exact ⟨⟨_, _, rfl, hri.out _ hfr.out⟩, X2.out, hc.out⟩
end
section
open Go.Proofs.YtiocbpabbjgkhaaGreatDoor.NumD
structure MeterAtQ (w : World) (F : Nat → Prop) (p q n : Nat) (l : List Int) : Prop where
 head : Blk w p #[.slice (some ⟨q, 0, none⟩) n n] 242
 row : Blk w q (l.map (Value.int .i64)).toArray 352
 len : l.length = n * 10
 ok : ∀ x ∈ l, In64 x
 fp : F p
 fq : F q
 ne : p ≠ q
 n64 : n ≤ 64
def MeterAt (w : World) (F : Nat → Prop) (p n : Nat) : Prop := ∃ q l, MeterAtQ w F p q n l
theorem MeterAt.ch {F G : Nat → Prop} {p n : Nat} (h : MeterAt w F p n) (hc : Ch G w w') (hd : ∀ b, F b → ¬ G b) : MeterAt w' F p n := by
 obtain ⟨q, l, h⟩ := h
 exact ⟨q, l, h.head.ch hc (hd _ h.fp), h.row.ch hc (hd _ h.fq), h.len, h.ok, h.fp, h.fq, h.ne, h.n64⟩
theorem MeterAt.mono {F G : Nat → Prop} {p n : Nat} (h : MeterAt w F p n) (hd : ∀ b, F b → G b) : MeterAt w G p n := by
 obtain ⟨q, l, h⟩ := h
 exact ⟨q, l, h.head, h.row, h.len, h.ok, hd _ h.fp, hd _ h.fq, h.ne, h.n64⟩
theorem MeterAtQ.cell {p q n : Nat} {l : List Int} (h : MeterAtQ w F p q n l) {i : Nat} (hi : i < n * 10) : w.cell? ⟨q, i, none⟩ = some (.int .i64 (l.getD i 0)) ∧ In64 (l.getD i 0) := by
 have h1 : l[i]? = some (l.getD i 0) := getD_some (by rw [h.len]; exact hi)
 exact ⟨by rw [h.row.cell, List.getElem?_toArray, List.getElem?_map, h1]; rfl, h.ok _ (List.mem_of_getElem? h1)⟩
theorem MeterAtQ.set {p q n : Nat} {l : List Int} (h : MeterAtQ w F p q n l) (i : Nat) (v : Int) (hv : In64 v) : MeterAtQ (w.setCell ⟨q, i, none⟩ (.int .i64 v)) F p q n (l.set i v) := by
 refine ⟨h.head.far (p := ⟨q, i, none⟩) (Ne.symm h.ne) _, ?_, by simpa using h.len, fun x hx => (List.mem_or_eq_of_mem_set hx).elim (h.ok x) (fun e => e ▸ hv), h.fp, h.fq, h.ne, h.n64⟩
 have := h.row.set i (.int .i64 v)
 rw [List.setIfInBounds_toArray, ← List.map_set] at this
 exact this
theorem wrap64_in (x : Int) : In64 (wrap64 x) := by unfold In64 wrap64; omega
def Told (e : Ending) : Prop := ∃ n : Int, e = .returned (.int .i64 n)
theorem Told.of (n : Int) : Told (.returned (.int .i64 n)) := ⟨n, rfl⟩
theorem mfind_no (w : World) {p n : Nat} (h : MeterAt w F p n) (cpu : Int) (hm : mayF n cpu = 3) : Calls prog 277 #[.pointer (some ⟨p, 0, none⟩), .int .i64 cpu] w fun e w' => e = .returned (.tuple #[.pointer none, .int .i64 3]) ∧ w = w' := by
 obtain ⟨q, l, h⟩ := h
 have c0 : w.cell? ⟨p, 0, none⟩ = some (.slice (some ⟨q, 0, none⟩) n n) := h.head.cell 0
 clear h
 rcases may_cases n cpu with ⟨h1, e⟩ | ⟨h1, h2, e⟩ | ⟨i, rfl, h2, e⟩
 ·clear hm e
  go_enter func277, ntmps277
  go_wp2;go_returns
  exact ⟨rfl, rfl⟩
 ·clear hm e
  go_enter func277, ntmps277
  go_wp2;go_returns
  exact ⟨rfl, rfl⟩
 ·rw [e] at hm; cases hm
theorem mfind_yes (w : World) {p q n : Nat} {l : List Int} (h : MeterAtQ w F p q n l) (i : Nat) (hi : i < n) : Calls prog 277 #[.pointer (some ⟨p, 0, none⟩), .int .i64 i] w fun e w' => e = .returned (.tuple #[.pointer (some ⟨q, i * 10, none⟩), .int .i64 0]) ∧ w = w' := by
 have c0 : w.cell? ⟨p, 0, none⟩ = some (.slice (some ⟨q, 0, none⟩) n n) := h.head.cell 0
 clear h
 go_enter func277, ntmps277
 go_wp2;go_returns
 exact ⟨rfl, rfl⟩
def withinG (n : Int) : Bool := decide (0 ≤ n) && decide (n ≤ 2147483648)
theorem mwithin_any (n : Int) (w : World) : Calls prog 325 #[.int .i64 n] w fun e w' => e = .returned (.bool (withinG n)) ∧ w = w' := by
 unfold withinG
 by_cases h0 : 0 ≤ n
 ·rw [decide_eq_true h0, Bool.true_and]
  go_enter func325, ntmps325
  go_wp2;go_returns
  exact ⟨rfl, rfl⟩
 ·have e : decide (0 ≤ n) = false := by simpa using h0
  rw [e];clear e
  go_enter func325, ntmps325
  go_wp2;go_returns
  exact ⟨rfl, rfl⟩
theorem mpay_any (w : World) {p q n : Nat} {l : List Int} (h : MeterAtQ w F p q n l) (i j : Nat) (hi : i < n) (hj : j < 9) (ticks power : Int) : Calls prog 278 #[.pointer (some ⟨q, i * 10, none⟩), .pointer (some ⟨q, i * 10 + j, none⟩), .int .i64 ticks, .int .i64 power] w fun e w' => Told e ∧ MeterAt w' F p n ∧ Ch F w w' := by
 have HT : Hid (MeterAt w F p n) := Hd ⟨q, l, h⟩
 have A := Hd (mwithin_any ticks w);have B := Hd (mwithin_any power w);generalize withinG ticks = b1 at *;generalize withinG power = b2 at *
 cases b1 with
 | false =>
  clear h
  go_enter func278, ntmps278
  go_wp2_with fail;refine A.out.mono ?_;rintro e w1 ⟨rfl, rfl⟩;go_wp2;go_returns
  exact ⟨Told.of _, HT.out, Ch.refl _ _⟩
 | true =>
  cases b2 with
  | false =>
   clear h
   go_enter func278, ntmps278
   go_wp2_with fail;refine A.out.mono ?_;rintro e w1 ⟨rfl, rfl⟩;go_wp2_with fail;refine B.out.mono ?_;rintro e w1 ⟨rfl, rfl⟩;go_wp2;go_returns
   exact ⟨Told.of _, HT.out, Ch.refl _ _⟩
  | true =>
   obtain ⟨z, hz⟩ : ∃ z, wrap64 (ticks * power) = z := ⟨_, rfl⟩
   have hzi : In64 z := hz ▸ wrap64_in _
   obtain ⟨k9, in9⟩ := h.cell (i := i * 10 + 9) (by omega)
   obtain ⟨kj, inj⟩ := h.cell (i := i * 10 + j) (by omega)
   have f9 : w.frozen? ⟨q, i * 10 + 9, none⟩ = false := h.row.frozen _
   have fj : w.frozen? ⟨q, i * 10 + j, none⟩ = false := h.row.frozen _
   have C := Hd (add_any (l.getD (i * 10 + 9) 0) z in9 hzi w)
   have H := Hd h
   have hs1 : Hid (In64 (sumF (l.getD (i * 10 + 9) 0 + z)).1) := Hd (by unfold sumF; split <;> (unfold In64; omega))
   have hne : j ≠ 9 := by omega
   have hdis : i * 10 + j ≠ i * 10 + 9 := by omega
   clear h in9 inj hzi
   obtain ⟨u, hu⟩ : ∃ u, u = sumF (l.getD (i * 10 + 9) 0 + z) := ⟨_, rfl⟩
   rw [← hu] at C hs1;clear hu;generalize l.getD (i * 10 + 9) 0 = x9 at *;generalize l.getD (i * 10 + j) 0 = xj at *;obtain ⟨sm, why⟩ := u;dsimp only at C hs1
   by_cases hw : why = 0
   ·subst hw
    by_cases hb : 4611686018427387904 < sm
    ·go_enter func278, ntmps278
     go_wp2_with fail;refine A.out.mono ?_;rintro e w1 ⟨rfl, rfl⟩;go_wp2_with fail;refine B.out.mono ?_;rintro e w1 ⟨rfl, rfl⟩;go_wp2_with fail;refine C.out.mono ?_;rintro e w1 ⟨rfl, rfl⟩;go_wp2;go_returns
     exact ⟨Told.of _, HT.out, Ch.refl _ _⟩
    ·go_enter func278, ntmps278
     go_wp2_with fail;refine A.out.mono ?_;rintro e w1 ⟨rfl, rfl⟩;go_wp2_with fail;refine B.out.mono ?_;rintro e w1 ⟨rfl, rfl⟩;go_wp2_with fail;refine C.out.mono ?_;rintro e w1 ⟨rfl, rfl⟩;go_wp2;go_returns
     have h1 := H.out.set (i * 10 + 9) sm hs1.out
     have h2 := h1.set (i * 10 + j) _ (wrap64_in (xj + ticks))
     exact ⟨Told.of _, ⟨q, _, h2⟩, ((Ch.refl F w).setCell (p := ⟨q, i * 10 + 9, none⟩) (fun _ => H.out.fq) _).setCell (p := ⟨q, i * 10 + j, none⟩) (fun _ => H.out.fq) _⟩
   ·have hw' : (why != 0) = true := by simpa using hw
    clear hw
    go_enter func278, ntmps278
    go_wp2_with fail;refine A.out.mono ?_;rintro e w1 ⟨rfl, rfl⟩;go_wp2_with fail;refine B.out.mono ?_;rintro e w1 ⟨rfl, rfl⟩;go_wp2_with fail;refine C.out.mono ?_;rintro e w1 ⟨rfl, rfl⟩;go_wp2;go_returns
    exact ⟨Told.of _, HT.out, Ch.refl _ _⟩
theorem mwork_any (w : World) {p n : Nat} (h : MeterAt w F p n) (cpu ticks power : Int) : Calls prog 212 #[.pointer (some ⟨p, 0, none⟩), .int .i64 cpu, .int .i64 ticks, .int .i64 power] w fun e w' => Told e ∧ MeterAt w' F p n ∧ Ch F w w' := by
 have HT := Hd h
 by_cases hm : mayF n cpu = 0
 ·obtain ⟨i, rfl, hi⟩ := may_yes hm
  obtain ⟨q, l, h⟩ := h;have A := Hd (mfind_yes w h i hi)
  have B := Hd (mpay_any w h i 0 hi (by omega) ticks power)
  clear h hm
  go_enter func212, ntmps212
  go_wp2_with fail;refine A.out.mono ?_;rintro e w1 ⟨rfl, rfl⟩;go_wp2_with fail;refine B.out.mono ?_;rintro e w1 ⟨⟨r, rfl⟩, h1⟩;replace h1 := Hd h1;go_wp2;go_returns
  exact ⟨Told.of _, h1.out⟩
 ·have A := Hd (mfind_no w h cpu (may_no hm))
  clear h hm
  go_enter func212, ntmps212
  go_wp2_with fail;refine A.out.mono ?_;rintro e w1 ⟨rfl, rfl⟩;go_wp2;go_returns
  exact ⟨Told.of _, HT.out, Ch.refl _ _⟩
theorem mrest_any (w : World) {p n : Nat} (h : MeterAt w F p n) (cpu way ticks power : Int) : Calls prog 211 #[.pointer (some ⟨p, 0, none⟩), .int .i64 cpu, .int .i64 way, .int .i64 ticks, .int .i64 power] w fun e w' => Told e ∧ MeterAt w' F p n ∧ Ch F w w' := by
 have HT := Hd h
 by_cases hm : mayF n cpu = 0
 ·obtain ⟨i, rfl, hi⟩ := may_yes hm
  obtain ⟨q, l, h⟩ := h;have A := Hd (mfind_yes w h i hi)
  rcases may_cases 8 way with ⟨h1, -⟩ | ⟨h1, h2, -⟩ | ⟨j, rfl, h2, -⟩
  ·clear h hm
   go_enter func211, ntmps211
   go_wp2_with fail;refine A.out.mono ?_;rintro e w1 ⟨rfl, rfl⟩;go_wp2;go_returns
   exact ⟨Told.of _, HT.out, Ch.refl _ _⟩
  ·clear h hm
   go_enter func211, ntmps211
   go_wp2_with fail;refine A.out.mono ?_;rintro e w1 ⟨rfl, rfl⟩;go_wp2;go_returns
   exact ⟨Told.of _, HT.out, Ch.refl _ _⟩
  ·have B := mpay_any w h i (1 + j) hi (by omega) ticks power
   rw [← Nat.add_assoc] at B;replace B := Hd B;clear h hm
   go_enter func211, ntmps211
   go_wp2_with fail;refine A.out.mono ?_;rintro e w1 ⟨rfl, rfl⟩;go_wp2_with fail;refine B.out.mono ?_;rintro e w1 ⟨⟨r, rfl⟩, h1⟩;replace h1 := Hd h1;go_wp2;go_returns
   exact ⟨Told.of _, h1.out⟩
 ·have A := Hd (mfind_no w h cpu (may_no hm))
  clear h hm
  go_enter func211, ntmps211
  go_wp2_with fail;refine A.out.mono ?_;rintro e w1 ⟨rfl, rfl⟩;go_wp2;go_returns
  exact ⟨Told.of _, HT.out, Ch.refl _ _⟩
theorem mcells (n : Nat) : (madeCells #[Value.int .i64 0, .int .i64 0, .int .i64 0, .int .i64 0, .int .i64 0, .int .i64 0, .int .i64 0, .int .i64 0, .int .i64 0, .int .i64 0] (n * 10)) = ((List.replicate (n * 10) (0 : Int)).map (Value.int .i64)).toArray := by
 apply Array.ext_getElem?
 intro k
 by_cases hk : k < n * 10
 ·simp only [madeCells, Array.getElem?_map, Array.getElem?_range, hk, if_true, Option.map_some, List.getElem?_toArray, List.getElem?_map, List.getElem?_replicate]
  have hm : k % 10 < 10 := Nat.mod_lt _ (by omega)
  generalize k % 10 = r at *
  rcases (by omega : r = 0 ∨ r = 1 ∨ r = 2 ∨ r = 3 ∨ r = 4 ∨ r = 5 ∨ r = 6 ∨ r = 7 ∨ r = 8 ∨ r = 9) with rfl | rfl | rfl | rfl | rfl | rfl | rfl | rfl | rfl | rfl <;> rfl
 ·rw [Array.getElem?_eq_none (by simp [madeCells]; omega), Array.getElem?_eq_none (by simp; omega)]
theorem meterZero : (prog.info? 352).map (fun i => (i.zero, i.size, i.bytes)) = some (some (.agg #[.int .i64 0, .int .i64 0, .int .i64 0, .int .i64 0, .int .i64 0, .int .i64 0, .int .i64 0, .int .i64 0, .int .i64 0, .int .i64 0]), 10, 80) := by kernel_rfl
theorem mnew_any (w : World) (cpus : Nat) (h1 : 1 ≤ cpus) (h64 : cpus ≤ 64) : Calls prog 72 #[.int .i64 cpus] w fun e w' => (∃ p, e = .returned (.tuple #[.pointer (some ⟨p, 0, none⟩), .int .i64 0]) ∧ MeterAt w' (Plus w w' (fun _ => False)) p cpus) ∧ Below w.heap.size w w' := by
 have hmk := fun W => make_any meterZero underlying240 (by omega) cpus (by omega) W
 go_enter func72, ntmps72
 go_wp2;go_returns
 refine ⟨⟨w.heap.size + 1, rfl, w.heap.size, List.replicate (cpus * 10) 0, Blk.at _ _ (by simp), ?_, by simp, fun x hx => by have := List.eq_of_mem_replicate hx; subst this; exact ⟨by omega, by omega⟩, .inr ⟨by omega, by simp⟩, .inr ⟨Nat.le_refl _, by simp; omega⟩, by omega, h64⟩, ((Below.refl _ _).alloc (Nat.le_refl _) _).alloc (by simp) _⟩
 rw [← mcells]
 exact (Blk.new _ _ _).alloc _
end
end Go.Proofs.YtiocbpabbjgkhaaGreatDoor
