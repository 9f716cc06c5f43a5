/- Part 10 of the proof: contracts and plain laws, each under the conditions that it names. -/
import Derived.Test.YtiocbpabbjgkhaaGreatDoorPart09
import Derived.Shelf.SlSortCmp.Whole1
import Derived.Shelf.SlSortCmp.NoneTotal
import Derived.Ground.SlsfProg
import Derived.LoopN
import Derived.WalkMore
import Derived.Shelf.SlIterI.Nil
import Derived.Ground.GgzProg
import Derived.Test.YtiocbpabbjgkhaaGreatDoorProg
set_option maxRecDepth 100000
set_option maxHeartbeats 20000000
set_option linter.unusedVariables false
set_option linter.unusedSimpArgs false
namespace Go.Proofs
open Go.Shelf
def Tryz.laysSort_ren : Go.Shelf.Ren := ⟨fun | 6 => 253 | 15 => 308 | 14 => 307 | 28 => 347 | 29 => 306 | 20 => 339 | 21 => 340 | 22 => 341 | 23 => 342 | 24 => 343 | 25 => 344 | 26 => 345 | 27 => 346 | 46 => 357 | 47 => 358 | 48 => 359 | 49 => 360 | 50 => 361 | 57 => 365 | n => n, fun | 22 => 65 | 24 => 3 | 25 => 336 | 3 => 3 | 39 => 331 | 0 => 0 | 53 => 390 | 55 => 37 | 4 => 4 | 46 => 384 | 45 => 383 | 50 => 86 | 5 => 5 | 9 => 9 | 66 => 394 | 70 => 398 | 76 => 400 | 77 => 401 | n => n, fun | n => n⟩
theorem Tryz.laysSort : Go.Proofs.SlLaysF.n6 Tryz.prog Tryz.laysSort_ren := {
 mixed := by kernel_rfl
 f6 := ⟨Tryz.f253.name, by decide, Tryz.func253.trans (congrArg some (by kernel_rfl))⟩
 f14 := ⟨Tryz.f307.name, by decide, Tryz.func307.trans (congrArg some (by kernel_rfl))⟩
 f15 := Tryz.func308.trans (congrArg some (by kernel_rfl))
 f20 := ⟨Tryz.f339.name, by decide, Tryz.func339.trans (congrArg some (by kernel_rfl))⟩
 f21 := ⟨Tryz.f340.name, by decide, Tryz.func340.trans (congrArg some (by kernel_rfl))⟩
 f22 := ⟨Tryz.f341.name, by decide, Tryz.func341.trans (congrArg some (by kernel_rfl))⟩
 f23 := ⟨Tryz.f342.name, by decide, Tryz.func342.trans (congrArg some (by kernel_rfl))⟩
 f24 := ⟨Tryz.f343.name, by decide, Tryz.func343.trans (congrArg some (by kernel_rfl))⟩
 f25 := ⟨Tryz.f344.name, by decide, Tryz.func344.trans (congrArg some (by kernel_rfl))⟩
 f26 := ⟨Tryz.f345.name, by decide, Tryz.func345.trans (congrArg some (by kernel_rfl))⟩
 f27 := ⟨Tryz.f346.name, by decide, Tryz.func346.trans (congrArg some (by kernel_rfl))⟩
 f28 := Tryz.func347.trans (congrArg some (by kernel_rfl))
 f29 := Tryz.func306.trans (congrArg some (by kernel_rfl))
 f46 := ⟨Tryz.f357.name, by decide, Tryz.func357.trans (congrArg some (by kernel_rfl))⟩
 f47 := Tryz.func358.trans (congrArg some (by kernel_rfl))
 f48 := Tryz.func359.trans (congrArg some (by kernel_rfl))
 f49 := ⟨Tryz.f360.name, by decide, Tryz.func360.trans (congrArg some (by kernel_rfl))⟩
 f50 := ⟨Tryz.f361.name, by decide, Tryz.func361.trans (congrArg some (by kernel_rfl))⟩
 f57 := ⟨Tryz.f365.name, by decide, Tryz.func365.trans (congrArg some (by kernel_rfl))⟩
 t0 := Tryz.underlying0
 a0 := Tryz.isAgg0
 z0 := Tryz.sizeOf0
 v0 := Tryz.zeroValue0
 t3 := Tryz.underlying3
 a3 := Tryz.isAgg3
 z3 := Tryz.sizeOf3
 v3 := Tryz.zeroValue3
 t4 := Tryz.underlying4
 a4 := Tryz.isAgg4
 z4 := Tryz.sizeOf4
 v4 := Tryz.zeroValue4
 t5 := Tryz.underlying5
 a5 := Tryz.isAgg5
 z5 := Tryz.sizeOf5
 v5 := Tryz.zeroValue5
 t9 := Tryz.underlying9
 a9 := Tryz.isAgg9
 z9 := Tryz.sizeOf9
 v9 := Tryz.zeroValue9
 t22 := Tryz.underlying65
 a22 := Tryz.isAgg65
 z22 := Tryz.sizeOf65
 v22 := Tryz.zeroValue65
 a24 := Tryz.isAgg3
 z24 := Tryz.sizeOf3
 t25 := Tryz.underlying336
 a25 := Tryz.isAgg336
 z25 := Tryz.sizeOf336
 v25 := Tryz.zeroValue336
 t39 := Tryz.underlying331
 a39 := Tryz.isAgg331
 z39 := Tryz.sizeOf331
 v39 := Tryz.zeroValue331
 t45 := Tryz.underlying383
 a45 := Tryz.isAgg383
 z45 := Tryz.sizeOf383
 v45 := Tryz.zeroValue383
 t46 := Tryz.underlying384
 a46 := Tryz.isAgg384
 z46 := Tryz.sizeOf384
 v46 := Tryz.zeroValue384
 t50 := Tryz.underlying86
 a50 := Tryz.isAgg86
 z50 := Tryz.sizeOf86
 v50 := Tryz.zeroValue86
 t53 := Tryz.underlying390
 a53 := Tryz.isAgg390
 z53 := Tryz.sizeOf390
 v53 := Tryz.zeroValue390
 t55 := Tryz.underlying37
 a55 := Tryz.isAgg37
 z55 := Tryz.sizeOf37
 v55 := Tryz.zeroValue37
 t66 := Tryz.underlying394
 a66 := Tryz.isAgg394
 z66 := Tryz.sizeOf394
 v66 := Tryz.zeroValue394
 t70 := Tryz.underlying398
 a70 := Tryz.isAgg398
 z70 := Tryz.sizeOf398
 v70 := Tryz.zeroValue398
 t76 := Tryz.underlying400
 a76 := Tryz.isAgg400
 z76 := Tryz.sizeOf400
 v76 := Tryz.zeroValue400
 t77 := Tryz.underlying401
 a77 := Tryz.isAgg401
 z77 := Tryz.sizeOf401
 v77 := Tryz.zeroValue401 }
end Go.Proofs
namespace Go.Proofs.YtiocbpabbjgkhaaGreatDoor
open Go.RowKit Tryz
variable {w w' : World} {F : Nat → Prop} {p : Nat}
section
open Go.Sort Go.Shelf
theorem ltW_iff (m : List (Int × Int)) (x y : Int) : ltOf (cmpF m) x y = decide ((mget m x).getD 0 < (mget m y).getD 0 ∨ ((mget m x).getD 0 = (mget m y).getD 0 ∧ x < y)) := by
 unfold ltOf cmpF cmp3;generalize (mget m x).getD 0 = a;generalize (mget m y).getD 0 = b;rw [decide_eq_decide]
 repeat' split
 all_goals omega
theorem swoW (m : List (Int × Int)) : SWO (ltOf (cmpF m)) where
 irrefl x := by rw [ltW_iff]; simp
 trans x y z h1 h2 := by rw [ltW_iff] at *; simp at *; omega
 ntrans x y z h1 h2 := by rw [ltW_iff] at *; simp at *; omega
theorem totW (m : List (Int × Int)) (x y : Int) (h1 : ltOf (cmpF m) x y = false) (h2 : ltOf (cmpF m) y x = false) : x = y := by
 rw [ltW_iff] at *
 simp at h1 h2
 omega
def sortedF (m : List (Int × Int)) : List Int → List Int
 | [] => []
 | x :: t => (x :: t).mergeSort fun a b => !(ltOf (cmpF m) b a)
theorem sortedF_perm (m : List (Int × Int)) (l : List Int) : (sortedF m l).Perm l := by
 cases l with
 | nil => exact List.Perm.refl _
 | cons x t => exact List.mergeSort_perm _ _
theorem sortedF_len (m : List (Int × Int)) (l : List Int) : (sortedF m l).length = l.length := (sortedF_perm m l).length_eq
theorem ch_sortWorld (w : World) (g n : Nat) (d : Array Int) (os : Array Obj) : Ch (fun b => b = g) w (sortWorld encN w g 0 n d os) := by
 have h1 : Ch (fun b => b = g) w (putRow encN (w.drewN n) g 0 d) := ((Ch.refl _ w).drewN n).trans (putRow_ch encN (w.drewN n) g 0 d)
 have h2 : Below (putRow encN (w.drewN n) g 0 d).heap.size (putRow encN (w.drewN n) g 0 d) (grow (putRow encN (w.drewN n) g 0 d) os) := ⟨rfl, rfl, rfl, by show _ ≤ (_ ++ os).size; rw [Array.size_append]; omega, fun _ hj => Sort.heap_grow_old _ os hj⟩
 exact h1.trans (Ch.of_below h2)
theorem wsorted_any (w : World) {F F2 : Nat → Prop} {s : Wheel} (h : WheelAt w F p s) (v : Value) (l : List Int) (hv : IntsAt w F2 v l) (hl8 : l.length ≤ 1099511627776) : Calls prog 178 #[.pointer (some ⟨p, 0, none⟩), v] w fun e w' => (∃ v', e = .returned v' ∧ IntsAt w' (New w) v' (sortedF s.dues l)) ∧ Below w.heap.size w w' := by
 have A := Hd (ints_clone (w.alloc (.cells #[.pointer (some ⟨p, 0, none⟩)] 171)) (hv.ch ((Ch.refl (fun _ => False) w).alloc _) (fun _ _ h => h)) hl8)
 obtain ⟨mb, sv, c, h⟩ := h
 have c1 : w.cell? ⟨p, 1, none⟩ = some (.map (some mb)) := by rw [h.head.cell]; rfl
 have hlp := h.head.lt;have hlm := h.map.lt;have hm := Hd h.map
 obtain ⟨base0, cap0, rfl⟩ := RowAt.form hv
 clear h hv
 go_enter func178, ntmps178
 go_wp2_with fail;refine A.out.mono ?_;rintro e w1 ⟨⟨v', rfl, hv'⟩, hb⟩;have hs0 := hb.size
 simp only [World.size_alloc] at hs0
 have hbw : Below w.heap.size w w1 := ((Below.refl w.heap.size w).alloc (Nat.le_refl _) _).trans (hb.mono (by simp))
 have hB1 : w1.cell? ⟨w.heap.size, 0, none⟩ = some (.pointer (some ⟨p, 0, none⟩)) := keepcell hb (cell_at1 _ _ rfl)
 cases hl : l with
 | nil =>
  subst hl
  obtain ⟨base, cap, rfl⟩ := RowAt.form hv'
  have D := Hd (AnyF.slices_SortFunc_none (P := prog) (ρ := laysSort_ren) { laysSort with } base cap (.func (.func 254) #[] #[.pointer (some ⟨w.heap.size, 0, none⟩)]) w1)
  replace hv' := Hd hv';replace hbw := Hd hbw;go_wp2_with fail;refine (D.out).mono ?_;rintro e w2 ⟨rfl, rfl⟩;go_wp2;go_returns
  exact ⟨⟨_, rfl, hv'.out.mono (fun b hb => by unfold New at *; simp at hb; omega)⟩, hbw.out⟩
 | cons x t =>
  rw [← hl]
  have hpos : 0 < l.length := by rw [hl]; simp
  have hsf : sortedF s.dues l = l.mergeSort (fun a b => !(ltOf (cmpF s.dues) b a)) := by rw [hl]; rfl
  clear hl;obtain ⟨h1, base, cap, rfl, h3, h4, h5⟩ := hv'
  rcases h5 with ⟨h5, _⟩ | ⟨g, cs, rfl, hgb, h6, h7, h8⟩
  ·omega
  have hg0 : w.heap.size + 1 ≤ g := by unfold New at h8; simpa using h8
  have hH := holds_ints hgb (by simpa using h7)
  have hcmp : CmpLays1 prog 254 #[.pointer (some ⟨w.heap.size, 0, none⟩)] encN (cmpF s.dues) g 0 l.toArray.size w1 := by
   intro m os dk hdk x y
   have hch := ch_sortWorld w1 g m dk os
   have k1 := keepch hch hB1 (by show ¬ _ = g; omega)
   have k2 := keepch hch (keepcell hbw c1) (by show ¬ _ = g; omega)
   have k3 : IMapAt (sortWorld encN w1 g 0 m dk os) mb s.dues := (hm.out.ch (Ch.off hbw) (fun h => h)).ch hch (by show ¬ _ = g; omega)
   refine (wcmp_any x y _ w.heap.size p mb s.dues k1 k2 k3).mono ?_;rintro e w' ⟨he, n, o, hw⟩
   exact ⟨he, n, #[o], by rw [hw, alloc_eq_grow]⟩
  have D := Hd (Any.slices_SortFunc_total (P := prog) (ρ := laysSort_ren) laysSort encN oneN (cmpF s.dues) (swoW _) 254 #[.pointer (some ⟨w.heap.size, 0, none⟩)] g 0 cap l.toArray w1 (enters_of func254 (by kernel_rfl) rfl) hcmp hH hgb.lt (by simp; omega) (totW _))
  have hgb' := Hd hgb;replace hbw := Hd hbw;replace h7 := Hd h7;clear hcmp hH hgb hm;go_wp2_with fail;refine (D.out).mono ?_;rintro e w2 ⟨rfl, n, os, rfl⟩;go_wp2;go_returns;rw [hsf]
  have hch := ch_sortWorld w1 g n (l.mergeSort (fun a b => !(ltOf (cmpF s.dues) b a))).toArray os
  have hlen : (l.mergeSort (fun a b => !(ltOf (cmpF s.dues) b a))).length = l.length := (List.mergeSort_perm _ _).length_eq
  have hcs : l.length ≤ cs.size := by simp at h6; omega
  refine ⟨⟨_, rfl, ?_⟩, hbw.out.trans (hch.below hbw.out.size (fun k hk e => by have e : k = g := e; omega))⟩
  have hblk : Blk (sortWorld encN w1 g 0 n (l.mergeSort (fun a b => !(ltOf (cmpF s.dues) b a))).toArray os) g (putCells encN 0 (l.mergeSort (fun a b => !(ltOf (cmpF s.dues) b a))).toArray cs) 3 := by
   have h1 := putRow_blk encN (w := w1.drewN n) (hgb'.out) (l.mergeSort (fun a b => !(ltOf (cmpF s.dues) b a))).toArray
   have h2 : Below (putRow encN (w1.drewN n) g 0 (l.mergeSort (fun a b => !(ltOf (cmpF s.dues) b a))).toArray).heap.size (putRow encN (w1.drewN n) g 0 (l.mergeSort (fun a b => !(ltOf (cmpF s.dues) b a))).toArray) (grow (putRow encN (w1.drewN n) g 0 (l.mergeSort (fun a b => !(ltOf (cmpF s.dues) b a))).toArray) os) := ⟨rfl, rfl, rfl, by show _ ≤ (_ ++ os).size; rw [Array.size_append]; omega, fun _ hj => Sort.heap_grow_old _ os hj⟩
   exact h1.ch (Ch.off h2) (fun h => h)
  rw [List.size_toArray]
  refine hlen ▸ RowAt.of_blk hblk (show New w g by unfold New; omega) (by simp) (by omega) h4 (by rw [putCells_size]; omega) ?_
  rw [Nat.mul_one, putCells_take _ _ _ (by simp; omega) _ (by simp), List.take_of_length_le (by simp)]
  rfl
def wheelReady (s : Wheel) : List Int := s.ls.getD 168 []
def wheelDue (s : Wheel) : List Int := sortedF s.dues (wheelReady s)
theorem wdue_any (w : World) {s : Wheel} (h : WheelAt w F p s) (hl8 : (wheelReady s).length ≤ 1099511627776) : Calls prog 95 #[.pointer (some ⟨p, 0, none⟩)] w fun e w' => (∃ v', e = .returned v' ∧ IntsAt w' (New w) v' (wheelDue s)) ∧ Below w.heap.size w w' := by
 have HT := h;obtain ⟨mb, sv, c, h⟩ := h
 have c1 : w.cell? ⟨p, 170, none⟩ = some (sv 168) := by rw [h.head.cell]; exact wheelCells_get _ _ _ 168 (by omega)
 have hI := h.ls 168 (by omega)
 have A := Hd (wsorted_any w HT (sv 168) (wheelReady s) hI hl8)
 clear HT h;unfold wheelDue
 obtain ⟨base, cap, hsv⟩ := RowAt.form hI
 rw [hsv] at A c1;clear hI hsv
 go_enter func95, ntmps95
 go_wp2_with fail;refine A.out.mono ?_;rintro e w1 ⟨⟨v', rfl, hv'⟩, hb⟩
 obtain ⟨base', cap', rfl⟩ := RowAt.form hv'
 replace hv' := Hd hv';replace hb := Hd hb;go_wp2;go_returns
 exact ⟨⟨_, rfl, hv'.out⟩, hb.out⟩
end
structure Irq where
 wanted : Bool
 masked : Bool
 pending : Bool
 mask : Nat
structure Irqs where
 all : List Irq
 cpus : Nat
def irqL (x : Irq) : List Value := [.bool x.wanted, .bool x.masked, .bool x.pending, .int .u64 x.mask]
theorem irqL_len (x : Irq) : (irqL x).length = 4 := rfl
def noIrq : Irq := ⟨false, false, false, 0⟩
structure IrqsAt (w : World) (F : Nat → Prop) (p : Nat) (t : Irqs) : Prop where
 head : Blk w p ((t.all.flatMap irqL) ++ [Value.int .u64 t.cpus]).toArray 218
 fp : F p
 len : t.all.length = 16
 lc : t.cpus < top64
 lm : ∀ x ∈ t.all, x.mask < top64
theorem IrqsAt.ch {F G : Nat → Prop} {t : Irqs} (h : IrqsAt w F p t) (hc : Ch G w w') (hd : ∀ b, F b → ¬ G b) : IrqsAt w' F p t := ⟨h.head.ch hc (hd _ h.fp), h.fp, h.len, h.lc, h.lm⟩
theorem IrqsAt.mono {F G : Nat → Prop} {t : Irqs} (h : IrqsAt w F p t) (hd : ∀ b, F b → G b) : IrqsAt w G p t := ⟨h.head, hd _ h.fp, h.len, h.lc, h.lm⟩
theorem IrqsAt.cell {t : Irqs} (h : IrqsAt w F p t) {i : Nat} {x : Irq} (hx : t.all[i]? = some x) (j : Nat) (hj : j < 4) : w.cell? ⟨p, i * 4 + j, none⟩ = (irqL x)[j]? := by
 have hi : i < t.all.length := (List.getElem?_eq_some_iff.1 hx).1
 rw [h.head.cell, List.getElem?_toArray, List.getElem?_append_left (by rw [flat_len irqL_len]; omega), flat_get irqL_len t.all i j x hx hj]
theorem IrqsAt.cc {t : Irqs} (h : IrqsAt w F p t) : w.cell? ⟨p, 64, none⟩ = some (.int .u64 t.cpus) := by
 rw [h.head.cell, List.getElem?_toArray, List.getElem?_append_right (by rw [flat_len irqL_len, h.len]; omega), flat_len irqL_len, h.len]
 rfl
theorem IrqsAt.get {t : Irqs} (h : IrqsAt w F p t) {i : Nat} (hi : i < 16) : t.all[i]? = some (t.all.getD i noIrq) := getD_some (by rw [h.len]; exact hi)
theorem IrqsAt.set {t : Irqs} (h : IrqsAt w F p t) {i : Nat} {x : Irq} (hx : t.all[i]? = some x) (j : Nat) (hj : j < 4) (y : Irq) (v : Value) (hy : irqL y = (irqL x).set j v) (hm : y.mask < top64) : IrqsAt (w.setCell ⟨p, i * 4 + j, none⟩ v) F p ⟨t.all.set i y, t.cpus⟩ := by
 have hi : i < t.all.length := (List.getElem?_eq_some_iff.1 hx).1
 refine ⟨?_, h.fp, by simpa using h.len, h.lc, fun z hz => (List.mem_or_eq_of_mem_set hz).elim (h.lm z) (fun e => e ▸ hm)⟩
 rw [← flat_set irqL_len t.all i j x y v hx hj hy]
 have := h.head.set (i * 4 + j) v
 rwa [List.setIfInBounds_toArray, List.set_append_left _ _ (by rw [flat_len irqL_len]; omega)] at this
theorem ifind_no (w : World) (p : Nat) (n : Int) (hm : mayF 16 n = 3) : Calls prog 180 #[.pointer (some ⟨p, 0, none⟩), .int .i64 n] w fun e w' => e = .returned (.tuple #[.pointer none, .int .i64 3]) ∧ w = w' := by
 rcases may_cases 16 n with ⟨h1, e⟩ | ⟨h1, h2, e⟩ | ⟨i, rfl, h2, e⟩
 ·clear hm e
  go_enter func180, ntmps180
  go_wp2;go_returns
  exact ⟨rfl, rfl⟩
 ·clear hm e
  go_enter func180, ntmps180
  go_wp2;go_returns
  exact ⟨rfl, rfl⟩
 ·rw [e] at hm; cases hm
theorem ifind_yes (w : World) (p i : Nat) (hi : i < 16) (n : Int) (hn : n = i) : Calls prog 180 #[.pointer (some ⟨p, 0, none⟩), .int .i64 n] w fun e w' => e = .returned (.tuple #[.pointer (some ⟨p, i * 4, none⟩), .int .i64 0]) ∧ w = w' := by
 subst hn
 go_enter func180, ntmps180
 go_wp2;go_returns
 exact ⟨rfl, rfl⟩
def irqAt (t : Irqs) (n : Int) : Irq := t.all.getD n.toNat noIrq
def irqWhy (t : Irqs) (n : Int) : Int := if mayF 16 n ≠ 0 then 3 else if (irqAt t n).wanted then 0 else 4
theorem irqWhy_cases (t : Irqs) (n : Int) : (mayF 16 n = 3 ∧ irqWhy t n = 3) ∨ (∃ i : Nat, n = i ∧ i < 16 ∧ (t.all.getD i noIrq).wanted = false ∧ irqWhy t n = 4 ∧ mayF 16 n = 0) ∨ (∃ i : Nat, n = i ∧ i < 16 ∧ (t.all.getD i noIrq).wanted = true ∧ irqWhy t n = 0 ∧ mayF 16 n = 0) := by
 unfold irqWhy irqAt
 by_cases hm : mayF 16 n = 0
 ·obtain ⟨i, rfl, hi⟩ := may_yes hm
  rw [if_neg (by simp [hm]), Int.toNat_natCast]
  cases hw : (t.all.getD i noIrq).wanted with
  | false => exact .inr (.inl ⟨i, rfl, hi, hw, rfl, hm⟩)
  | true => exact .inr (.inr ⟨i, rfl, hi, hw, rfl, hm⟩)
 ·exact .inl ⟨may_no hm, by rw [if_pos hm]⟩
theorem iwanted_any (w : World) {t : Irqs} (h : IrqsAt w F p t) (n : Int) : Calls prog 100 #[.pointer (some ⟨p, 0, none⟩), .int .i64 n] w fun e w' => e = .returned (.tuple #[.pointer (if irqWhy t n = 0 then some ⟨p, n.toNat * 4, none⟩ else none), .int .i64 (irqWhy t n)]) ∧ w = w' := by
 rcases irqWhy_cases t n with ⟨hm, e⟩ | ⟨i, rfl, hi, hw, e, -⟩ | ⟨i, rfl, hi, hw, e, -⟩
 ·have A := Hd (ifind_no w p n hm)
  rw [e, if_neg (by simp)];clear e hm h
  go_enter func100, ntmps100
  go_wp2_with fail;refine A.out.mono ?_;rintro e w1 ⟨rfl, rfl⟩;go_wp2;go_returns
  exact ⟨rfl, rfl⟩
 all_goals
  have A := Hd (ifind_yes w p i hi i rfl)
  have k0 := h.cell (h.get hi) 0 (by omega)
  rw [e];clear e h;generalize t.all.getD i noIrq = x at *
  simp [irqL, hw] at k0
  clear hw
  simp only [Int.toNat_natCast]
  go_enter func100, ntmps100
  go_wp2_with fail;refine A.out.mono ?_;rintro e w1 ⟨rfl, rfl⟩;go_wp2;go_returns
  exact ⟨rfl, rfl⟩
theorem iright_any (w : World) {t : Irqs} (h : IrqsAt w F p t) (m : Nat) (hm : m < top64) : Calls prog 227 #[.pointer (some ⟨p, 0, none⟩), .int .u64 m] w fun e w' => e = .returned (.bool (decide (m ≠ 0) && withinF m t.cpus)) ∧ w = w' := by
 have A := Hd (within_any m t.cpus hm h.lc w);have cc := h.cc;clear h
 by_cases h0 : m = 0
 ·subst h0
  go_enter func227, ntmps227
  go_wp2;go_returns
  exact ⟨rfl, rfl⟩
 ·have e0 : ((m : Int) != 0) = true := by simpa using h0
  rw [decide_eq_true h0, Bool.true_and];generalize withinF m t.cpus = b at *;clear h0
  go_enter func227, ntmps227
  go_wp2_with fail;refine A.out.mono ?_;rintro e w1 ⟨rfl, rfl⟩;go_wp2;go_returns
  exact ⟨rfl, rfl⟩
def irqSet (t : Irqs) (n : Int) (f : Irq → Irq) : Irqs := ⟨t.all.set n.toNat (f (t.all.getD n.toNat noIrq)), t.cpus⟩
def irqGet (t : Irqs) (n : Int) : Irq := if mayF 16 n ≠ 0 then noIrq else irqAt t n
theorem iget_any (w : World) {t : Irqs} (h : IrqsAt w F p t) (n : Int) : Calls prog 228 #[.pointer (some ⟨p, 0, none⟩), .int .i64 n] w fun e w' => e = .returned (.tuple #[.agg (irqL (irqGet t n)).toArray, .int .i64 (mayF 16 n)]) ∧ Below w.heap.size w w' := by
 by_cases hm : mayF 16 n = 0
 ·obtain ⟨i, rfl, hi⟩ := may_yes hm
  have e : irqGet t i = t.all.getD i noIrq := by unfold irqGet irqAt; rw [if_neg (by simp [hm]), Int.toNat_natCast]
  rw [e, hm];have A := Hd (fun w => ifind_yes w p i hi i rfl)
  have hx := h.get hi
  have k0 := h.cell hx 0 (by omega)
  have k1 := h.cell hx 1 (by omega)
  have k2 := h.cell hx 2 (by omega)
  have k3 := h.cell hx 3 (by omega)
  have hlt := h.head.lt;clear e hm h hx;generalize t.all.getD i noIrq = x at *
  simp [irqL] at k0 k1 k2 k3
  go_enter func228, ntmps228
  go_wp2_with fail;refine (A.out _).mono ?_;rintro e w1 ⟨rfl, hw⟩;subst hw;go_wp2
  refine bodyPost_ret (v := .tuple #[.agg (irqL x).toArray, .int .i64 0]) (by simp [results, results228, go_sem, irqL]) rfl ⟨rfl, ?_⟩
  exact (Ch.isBelow (by (repeat (first | with_reducible exact Ch.refl _ _ | (with_reducible refine Ch.alloc ?_ _) | (with_reducible refine Ch.drew ?_) | (with_reducible refine Ch.drewN ?_ _) | (refine Ch.setCell ?_ (fun h => absurd h (by simp)) _)))))
 ·have A := Hd (fun w => ifind_no w p n (may_no hm))
  have e : irqGet t n = noIrq := by unfold irqGet; rw [if_pos hm]
  rw [e, may_no hm];clear e h hm
  go_enter func228, ntmps228
  go_wp2_with fail;refine (A.out _).mono ?_;rintro e w1 ⟨rfl, hw⟩;subst hw;go_wp2
  refine bodyPost_ret (v := .tuple #[.agg (irqL noIrq).toArray, .int .i64 3]) (by simp [results, results228, go_sem, irqL, noIrq]) rfl ⟨rfl, ?_⟩
  exact (Ch.isBelow (by (repeat (first | with_reducible exact Ch.refl _ _ | (with_reducible refine Ch.alloc ?_ _) | (with_reducible refine Ch.drew ?_) | (with_reducible refine Ch.drewN ?_ _) | (refine Ch.setCell ?_ (fun h => absurd h (by simp)) _)))))
theorem IrqsAt.all4 {t : Irqs} (h : IrqsAt w F p t) {i : Nat} (hi : i < 16) (y : Irq) (hm : y.mask < top64) :
  IrqsAt ((((w.setCell ⟨p, i * 4, none⟩ (.bool y.wanted)).setCell ⟨p, i * 4 + 1, none⟩ (.bool y.masked)).setCell ⟨p, i * 4 + 2, none⟩ (.bool y.pending)).setCell ⟨p, i * 4 + 3, none⟩ (.int .u64 y.mask)) F p ⟨t.all.set i y, t.cpus⟩ := by
 have hx := h.get hi
 have hl : i < t.all.length := by rw [h.len]; exact hi
 generalize t.all.getD i noIrq = x at hx
 have hm0 : x.mask < top64 := h.lm x (List.mem_of_getElem? hx)
 have h0 := h.set hx 0 (by omega) ⟨y.wanted, x.masked, x.pending, x.mask⟩ (.bool y.wanted) rfl hm0
 have h1 := h0.set (get_set hl) 1 (by omega) ⟨y.wanted, y.masked, x.pending, x.mask⟩ (.bool y.masked) rfl hm0
 have h2 := h1.set (get_set (by rw [List.length_set]; exact hl)) 2 (by omega) ⟨y.wanted, y.masked, y.pending, x.mask⟩ (.bool y.pending) rfl hm0
 have h3 := h2.set (get_set (by rw [List.length_set, List.length_set]; exact hl)) 3 (by omega) y (.int .u64 y.mask) rfl hm
 simp only [set_set] at h3
 exact h3
def irqRequest (t : Irqs) (n : Int) (m : Nat) : Irqs × Int :=
 if mayF 16 n ≠ 0 then (t, 3) else if (irqAt t n).wanted then (t, 6) else if decide (m ≠ 0) && withinF m t.cpus then (irqSet t n (fun _ => ⟨true, false, false, m⟩), 0) else (t, 2)
theorem irequest_any (w : World) {t : Irqs} (h : IrqsAt w F p t) (n : Int) (m : Nat) (hm : m < top64) : Calls prog 139 #[.pointer (some ⟨p, 0, none⟩), .int .i64 n, .int .u64 m] w fun e w' => e = .returned (.int .i64 (irqRequest t n m).2) ∧ IrqsAt w' F p (irqRequest t n m).1 ∧ Ch F w w' ∧ w'.heap.size = w.heap.size := by
 unfold irqRequest;have HT := Hd h
 by_cases hmy : mayF 16 n = 0
 ·obtain ⟨i, rfl, hi⟩ := may_yes hmy
  rw [if_neg (by simp [hmy])]
  have A := Hd (ifind_yes w p i hi i rfl);have R := Hd (iright_any w h m hm)
  have k0 := h.cell (h.get hi) 0 (by omega)
  have k1 := h.cell (h.get hi) 1 (by omega)
  have k2 := h.cell (h.get hi) 2 (by omega)
  have k3 := h.cell (h.get hi) 3 (by omega)
  have f0 : w.frozen? ⟨p, i * 4, none⟩ = false := h.head.frozen _
  have f1 : w.frozen? ⟨p, i * 4 + 1, none⟩ = false := h.head.frozen _
  have f2 : w.frozen? ⟨p, i * 4 + 2, none⟩ = false := h.head.frozen _
  have f3 : w.frozen? ⟨p, i * 4 + 3, none⟩ = false := h.head.frozen _
  unfold irqAt irqSet
  simp only [Int.toNat_natCast]
  clear h hmy;generalize t.all.getD i noIrq = x at *;generalize (decide (m ≠ 0) && withinF m t.cpus) = r at *
  simp [irqL] at k0 k1 k2 k3
  cases hw : x.wanted with
  | true =>
   rw [hw] at k0;rw [if_pos rfl];clear hw
   go_enter func139, ntmps139
   go_wp2_with fail;refine A.out.mono ?_;rintro e w1 ⟨rfl, rfl⟩;go_wp2;go_returns
   exact ⟨rfl, HT.out, Ch.refl _ _, rfl⟩
  | false =>
   rw [hw] at k0;rw [if_neg (by simp)];replace hw := Hd hw
   cases r with
   | false =>
    rw [if_neg (by simp)]
    go_enter func139, ntmps139
    go_wp2_with fail;refine A.out.mono ?_;rintro e w1 ⟨rfl, rfl⟩;go_wp2_with fail;refine R.out.mono ?_;rintro e w1 ⟨rfl, rfl⟩;go_wp2;go_returns
    exact ⟨rfl, HT.out, Ch.refl _ _, rfl⟩
   | true =>
    rw [if_pos rfl]
    go_enter func139, ntmps139
    go_wp2_with fail;refine A.out.mono ?_;rintro e w1 ⟨rfl, rfl⟩;go_wp2_with fail;refine R.out.mono ?_;rintro e w1 ⟨rfl, rfl⟩;go_wp2;go_returns
    exact ⟨rfl, HT.out.all4 hi ⟨true, false, false, m⟩ hm, ((((Ch.refl F w).setCell (p := ⟨p, i * 4, none⟩) (fun _ => HT.out.fp) _).setCell (p := ⟨p, i * 4 + 1, none⟩) (fun _ => HT.out.fp) _).setCell (p := ⟨p, i * 4 + 2, none⟩) (fun _ => HT.out.fp) _).setCell (p := ⟨p, i * 4 + 3, none⟩) (fun _ => HT.out.fp) _, by simp⟩
 ·have A := Hd (ifind_no w p n (may_no hmy))
  rw [if_pos hmy];clear h hmy
  go_enter func139, ntmps139
  go_wp2_with fail;refine A.out.mono ?_;rintro e w1 ⟨rfl, rfl⟩;go_wp2;go_returns
  exact ⟨rfl, HT.out, Ch.refl _ _, rfl⟩
def irqTurn (t : Irqs) (n : Int) (f : Irq → Irq) : Irqs × Int := if irqWhy t n = 0 then (irqSet t n f, 0) else (t, irqWhy t n)
theorem ifree_any (w : World) {t : Irqs} (h : IrqsAt w F p t) (n : Int) : Calls prog 142 #[.pointer (some ⟨p, 0, none⟩), .int .i64 n] w fun e w' => e = .returned (.int .i64 (irqTurn t n (fun _ => noIrq)).2) ∧ IrqsAt w' F p (irqTurn t n (fun _ => noIrq)).1 ∧ Ch F w w' ∧ w'.heap.size = w.heap.size := by
 unfold irqTurn;have HT := Hd h;have A := Hd (iwanted_any w h n)
 rcases irqWhy_cases t n with ⟨hm, e⟩ | ⟨i, rfl, hi, hw, e, -⟩ | ⟨i, rfl, hi, hw, e, -⟩
 ·rw [e] at A ⊢
  clear e hm h
  go_enter func142, ntmps142
  go_wp2_with fail;refine A.out.mono ?_;rintro e w1 ⟨rfl, rfl⟩;go_wp2;go_returns
  exact ⟨rfl, HT.out, Ch.refl _ _, rfl⟩
 ·rw [e] at A ⊢
  clear e h hw
  go_enter func142, ntmps142
  go_wp2_with fail;refine A.out.mono ?_;rintro e w1 ⟨rfl, rfl⟩;go_wp2;go_returns
  exact ⟨rfl, HT.out, Ch.refl _ _, rfl⟩
 ·rw [e] at A ⊢
  have k0 := h.cell (h.get hi) 0 (by omega)
  have k1 := h.cell (h.get hi) 1 (by omega)
  have k2 := h.cell (h.get hi) 2 (by omega)
  have k3 := h.cell (h.get hi) 3 (by omega)
  have f0 : w.frozen? ⟨p, i * 4, none⟩ = false := h.head.frozen _
  have f1 : w.frozen? ⟨p, i * 4 + 1, none⟩ = false := h.head.frozen _
  have f2 : w.frozen? ⟨p, i * 4 + 2, none⟩ = false := h.head.frozen _
  have f3 : w.frozen? ⟨p, i * 4 + 3, none⟩ = false := h.head.frozen _
  unfold irqSet
  simp only [Int.toNat_natCast, if_true] at A ⊢
  clear h e hw;generalize t.all.getD i noIrq = x at *
  simp [irqL] at k0 k1 k2 k3
  go_enter func142, ntmps142
  go_wp2_with fail;refine A.out.mono ?_;rintro e w1 ⟨rfl, rfl⟩;go_wp2;go_returns
  exact ⟨rfl, HT.out.all4 hi noIrq (by decide), ((((Ch.refl F w).setCell (p := ⟨p, i * 4, none⟩) (fun _ => HT.out.fp) _).setCell (p := ⟨p, i * 4 + 1, none⟩) (fun _ => HT.out.fp) _).setCell (p := ⟨p, i * 4 + 2, none⟩) (fun _ => HT.out.fp) _).setCell (p := ⟨p, i * 4 + 3, none⟩) (fun _ => HT.out.fp) _, by simp⟩
def irqAim (t : Irqs) (n : Int) (m : Nat) : Irqs × Int := if irqWhy t n = 0 then (if decide (m ≠ 0) && withinF m t.cpus then (irqSet t n (fun x => ⟨x.wanted, x.masked, x.pending, m⟩), 0) else (t, 2)) else (t, irqWhy t n)
theorem iaim_any (w : World) {t : Irqs} (h : IrqsAt w F p t) (n : Int) (m : Nat) (hm64 : m < top64) : Calls prog 145 #[.pointer (some ⟨p, 0, none⟩), .int .i64 n, .int .u64 m] w fun e w' => e = .returned (.int .i64 (irqAim t n m).2) ∧ IrqsAt w' F p (irqAim t n m).1 ∧ Ch F w w' ∧ w'.heap.size = w.heap.size := by
 unfold irqAim;have HT := Hd h;have A := Hd (iwanted_any w h n)
 rcases irqWhy_cases t n with ⟨hm, e⟩ | ⟨i, rfl, hi, hw, e, -⟩ | ⟨i, rfl, hi, hw, e, -⟩
 ·rw [e] at A ⊢
  clear e hm h
  go_enter func145, ntmps145
  go_wp2_with fail;refine A.out.mono ?_;rintro e w1 ⟨rfl, rfl⟩;go_wp2;go_returns
  exact ⟨rfl, HT.out, Ch.refl _ _, rfl⟩
 ·rw [e] at A ⊢
  clear e h hw
  go_enter func145, ntmps145
  go_wp2_with fail;refine A.out.mono ?_;rintro e w1 ⟨rfl, rfl⟩;go_wp2;go_returns
  exact ⟨rfl, HT.out, Ch.refl _ _, rfl⟩
 ·rw [e] at A ⊢
  have R := Hd (iright_any w h m hm64)
  have hx := h.get hi
  have k3 := h.cell hx 3 (by omega)
  have f3 : w.frozen? ⟨p, i * 4 + 3, none⟩ = false := h.head.frozen _
  unfold irqSet
  simp only [Int.toNat_natCast, if_true] at A ⊢
  clear h e hw;generalize t.all.getD i noIrq = x at *;replace hx := Hd hx;generalize (decide (m ≠ 0) && withinF m t.cpus) = r at *
  simp [irqL] at k3
  cases r with
  | false =>
   rw [if_neg (by simp)]
   go_enter func145, ntmps145
   go_wp2_with fail;refine A.out.mono ?_;rintro e w1 ⟨rfl, rfl⟩;go_wp2_with fail;refine R.out.mono ?_;rintro e w1 ⟨rfl, rfl⟩;go_wp2;go_returns
   exact ⟨rfl, HT.out, Ch.refl _ _, rfl⟩
  | true =>
   rw [if_pos rfl]
   go_enter func145, ntmps145
   go_wp2_with fail;refine A.out.mono ?_;rintro e w1 ⟨rfl, rfl⟩;go_wp2_with fail;refine R.out.mono ?_;rintro e w1 ⟨rfl, rfl⟩;go_wp2;go_returns
   exact ⟨rfl, HT.out.set hx.out 3 (by omega) ⟨x.wanted, x.masked, x.pending, m⟩ _ rfl hm64, (Ch.refl F w).setCell (p := ⟨p, i * 4 + 3, none⟩) (fun _ => HT.out.fp) _, by simp⟩
def irqHush (t : Irqs) (n : Int) (b : Bool) : Irqs × Int := if irqWhy t n = 0 then (if (irqAt t n).masked = b then (t, 6) else (irqSet t n (fun x => ⟨x.wanted, b, x.pending, x.mask⟩), 0)) else (t, irqWhy t n)
theorem ihush_any (w : World) {t : Irqs} (h : IrqsAt w F p t) (n : Int) (b : Bool) : Calls prog 230 #[.pointer (some ⟨p, 0, none⟩), .int .i64 n, .bool b] w fun e w' => e = .returned (.int .i64 (irqHush t n b).2) ∧ IrqsAt w' F p (irqHush t n b).1 ∧ Ch F w w' ∧ w'.heap.size = w.heap.size := by
 unfold irqHush;have HT := Hd h;have A := Hd (iwanted_any w h n)
 rcases irqWhy_cases t n with ⟨hm, e⟩ | ⟨i, rfl, hi, hw, e, -⟩ | ⟨i, rfl, hi, hw, e, -⟩
 ·rw [e] at A ⊢
  clear e hm h
  go_enter func230, ntmps230
  go_wp2_with fail;refine A.out.mono ?_;rintro e w1 ⟨rfl, rfl⟩;go_wp2;go_returns
  exact ⟨rfl, HT.out, Ch.refl _ _, rfl⟩
 ·rw [e] at A ⊢
  clear e h hw
  go_enter func230, ntmps230
  go_wp2_with fail;refine A.out.mono ?_;rintro e w1 ⟨rfl, rfl⟩;go_wp2;go_returns
  exact ⟨rfl, HT.out, Ch.refl _ _, rfl⟩
 ·rw [e] at A ⊢
  have hx := h.get hi
  have k1 := h.cell hx 1 (by omega)
  have f1 : w.frozen? ⟨p, i * 4 + 1, none⟩ = false := h.head.frozen _
  have hl := h.lm _ (List.mem_of_getElem? hx)
  unfold irqSet irqAt
  simp only [Int.toNat_natCast, if_true] at A ⊢
  clear h e hw;generalize t.all.getD i noIrq = x at *;replace hx := Hd hx;replace hl := Hd hl
  simp [irqL] at k1
  by_cases hb : x.masked = b
  ·rw [if_pos hb]
   have hb' : (x.masked == b) = true := by simpa using hb
   clear hb
   go_enter func230, ntmps230
   go_wp2_with fail;refine A.out.mono ?_;rintro e w1 ⟨rfl, rfl⟩;go_wp2;go_returns
   exact ⟨rfl, HT.out, Ch.refl _ _, rfl⟩
  ·rw [if_neg hb]
   have hb' : (x.masked == b) = false := by simpa using hb
   clear hb
   go_enter func230, ntmps230
   go_wp2_with fail;refine A.out.mono ?_;rintro e w1 ⟨rfl, rfl⟩;go_wp2;go_returns
   exact ⟨rfl, HT.out.set hx.out 1 (by omega) ⟨x.wanted, b, x.pending, x.mask⟩ _ rfl hl.out, (Ch.refl F w).setCell (p := ⟨p, i * 4 + 1, none⟩) (fun _ => HT.out.fp) _, by simp⟩
theorem ihush1_any (w : World) {t : Irqs} (h : IrqsAt w F p t) (n : Int) : Calls prog 148 #[.pointer (some ⟨p, 0, none⟩), .int .i64 n] w fun e w' => e = .returned (.int .i64 (irqHush t n true).2) ∧ IrqsAt w' F p (irqHush t n true).1 ∧ Ch F w w' ∧ w'.heap.size = w.heap.size := by
 have A := Hd (ihush_any w h n true);clear h;generalize irqHush t n true = u at *
 go_enter func148, ntmps148
 go_wp2_with fail;refine A.out.mono ?_;rintro e w1 ⟨rfl, h1⟩;replace h1 := Hd h1;go_wp2;go_returns
 exact ⟨rfl, h1.out⟩
theorem ihush0_any (w : World) {t : Irqs} (h : IrqsAt w F p t) (n : Int) : Calls prog 149 #[.pointer (some ⟨p, 0, none⟩), .int .i64 n] w fun e w' => e = .returned (.int .i64 (irqHush t n false).2) ∧ IrqsAt w' F p (irqHush t n false).1 ∧ Ch F w w' ∧ w'.heap.size = w.heap.size := by
 have A := Hd (ihush_any w h n false);clear h;generalize irqHush t n false = u at *
 go_enter func149, ntmps149
 go_wp2_with fail;refine A.out.mono ?_;rintro e w1 ⟨rfl, h1⟩;replace h1 := Hd h1;go_wp2;go_returns
 exact ⟨rfl, h1.out⟩
def raiseF (x : Irq) : Irq := ⟨x.wanted, x.masked, true, x.mask⟩
theorem iraise_any (w : World) {t : Irqs} (h : IrqsAt w F p t) (n : Int) : Calls prog 150 #[.pointer (some ⟨p, 0, none⟩), .int .i64 n] w fun e w' => e = .returned (.int .i64 (irqTurn t n raiseF).2) ∧ IrqsAt w' F p (irqTurn t n raiseF).1 ∧ Ch F w w' ∧ w'.heap.size = w.heap.size := by
 unfold irqTurn;have HT := Hd h;have A := Hd (iwanted_any w h n)
 rcases irqWhy_cases t n with ⟨hm, e⟩ | ⟨i, rfl, hi, hw, e, -⟩ | ⟨i, rfl, hi, hw, e, -⟩
 ·rw [e] at A ⊢
  clear e hm h
  go_enter func150, ntmps150
  go_wp2_with fail;refine A.out.mono ?_;rintro e w1 ⟨rfl, rfl⟩;go_wp2;go_returns
  exact ⟨rfl, HT.out, Ch.refl _ _, rfl⟩
 ·rw [e] at A ⊢
  clear e h hw
  go_enter func150, ntmps150
  go_wp2_with fail;refine A.out.mono ?_;rintro e w1 ⟨rfl, rfl⟩;go_wp2;go_returns
  exact ⟨rfl, HT.out, Ch.refl _ _, rfl⟩
 ·rw [e] at A ⊢
  have hx := h.get hi
  have k2 := h.cell hx 2 (by omega)
  have f2 : w.frozen? ⟨p, i * 4 + 2, none⟩ = false := h.head.frozen _
  have hl := h.lm _ (List.mem_of_getElem? hx)
  unfold irqSet
  simp only [Int.toNat_natCast, if_true] at A ⊢
  clear h e hw;generalize t.all.getD i noIrq = x at *;replace hx := Hd hx;replace hl := Hd hl
  simp [irqL] at k2
  go_enter func150, ntmps150
  go_wp2_with fail;refine A.out.mono ?_;rintro e w1 ⟨rfl, rfl⟩;go_wp2;go_returns
  exact ⟨rfl, HT.out.set hx.out 2 (by omega) (raiseF x) _ rfl hl.out, (Ch.refl F w).setCell (p := ⟨p, i * 4 + 2, none⟩) (fun _ => HT.out.fp) _, by simp⟩
def irqReady (t : Irqs) (n : Int) : Bool := decide (irqWhy t n = 0) && (irqAt t n).pending && !(irqAt t n).masked
theorem iready_any (w : World) {t : Irqs} (h : IrqsAt w F p t) (n : Int) : Calls prog 32 #[.pointer (some ⟨p, 0, none⟩), .int .i64 n] w fun e w' => e = .returned (.bool (irqReady t n)) ∧ w = w' := by
 unfold irqReady;have A := Hd (iwanted_any w h n)
 rcases irqWhy_cases t n with ⟨hm, e⟩ | ⟨i, rfl, hi, hw, e, -⟩ | ⟨i, rfl, hi, hw, e, -⟩
 ·rw [e] at A ⊢
  clear e hm h
  go_enter func32, ntmps32
  go_wp2_with fail;refine A.out.mono ?_;rintro e w1 ⟨rfl, rfl⟩;go_wp2;go_returns
  exact ⟨rfl, rfl⟩
 ·rw [e] at A ⊢
  clear e h hw
  go_enter func32, ntmps32
  go_wp2_with fail;refine A.out.mono ?_;rintro e w1 ⟨rfl, rfl⟩;go_wp2;go_returns
  exact ⟨rfl, rfl⟩
 ·rw [e] at A ⊢
  have hx := h.get hi
  have k1 := h.cell hx 1 (by omega)
  have k2 := h.cell hx 2 (by omega)
  unfold irqAt
  simp only [Int.toNat_natCast, if_true] at A ⊢
  clear h e hw hx;generalize t.all.getD i noIrq = x at *;obtain ⟨x0, x1, x2, x3⟩ := x
  simp [irqL] at k1 k2
  cases x1
  all_goals cases x2
  all_goals
   go_enter func32, ntmps32
   go_wp2_with fail;refine A.out.mono ?_;rintro e w1 ⟨rfl, rfl⟩;go_wp2;go_returns
   exact ⟨rfl, rfl⟩
def clearF (x : Irq) : Irq := ⟨x.wanted, x.masked, false, x.mask⟩
def irqClear (t : Irqs) (n : Int) : Irqs × Int := if irqWhy t n = 0 then (if (irqAt t n).pending && !(irqAt t n).masked then (irqSet t n clearF, 0) else (t, 12)) else (t, irqWhy t n)
theorem iclear_any (w : World) {t : Irqs} (h : IrqsAt w F p t) (n : Int) : Calls prog 203 #[.pointer (some ⟨p, 0, none⟩), .int .i64 n] w fun e w' => e = .returned (.int .i64 (irqClear t n).2) ∧ IrqsAt w' F p (irqClear t n).1 ∧ Ch F w w' ∧ w'.heap.size = w.heap.size := by
 unfold irqClear;have HT := Hd h;have A := Hd (iwanted_any w h n)
 rcases irqWhy_cases t n with ⟨hm, e⟩ | ⟨i, rfl, hi, hw, e, -⟩ | ⟨i, rfl, hi, hw, e, -⟩
 ·rw [e] at A ⊢
  clear e hm h
  go_enter func203, ntmps203
  go_wp2_with fail;refine A.out.mono ?_;rintro e w1 ⟨rfl, rfl⟩;go_wp2;go_returns
  exact ⟨rfl, HT.out, Ch.refl _ _, rfl⟩
 ·rw [e] at A ⊢
  clear e h hw
  go_enter func203, ntmps203
  go_wp2_with fail;refine A.out.mono ?_;rintro e w1 ⟨rfl, rfl⟩;go_wp2;go_returns
  exact ⟨rfl, HT.out, Ch.refl _ _, rfl⟩
 ·rw [e] at A ⊢
  have hx := h.get hi
  have k1 := h.cell hx 1 (by omega)
  have k2 := h.cell hx 2 (by omega)
  have f2 : w.frozen? ⟨p, i * 4 + 2, none⟩ = false := h.head.frozen _
  have hl := h.lm _ (List.mem_of_getElem? hx)
  unfold irqSet irqAt
  simp only [Int.toNat_natCast, if_true] at A ⊢
  clear h e hw;generalize t.all.getD i noIrq = x at *;replace hx := Hd hx;replace hl := Hd hl
  simp [irqL] at k1 k2
  cases h2 : x.pending with
  | false =>
   rw [h2] at k2;rw [if_neg (by simp)];clear h2
   go_enter func203, ntmps203
   go_wp2_with fail;refine A.out.mono ?_;rintro e w1 ⟨rfl, rfl⟩;go_wp2;go_returns
   exact ⟨rfl, HT.out, Ch.refl _ _, rfl⟩
  | true =>
   rw [h2] at k2;replace h2 := Hd h2
   cases h1 : x.masked with
   | true =>
    rw [h1] at k1;rw [if_neg (by simp)];clear h1
    go_enter func203, ntmps203
    go_wp2_with fail;refine A.out.mono ?_;rintro e w1 ⟨rfl, rfl⟩;go_wp2;go_returns
    exact ⟨rfl, HT.out, Ch.refl _ _, rfl⟩
   | false =>
    rw [h1] at k1;rw [if_pos (by simp)];replace h1 := Hd h1
    go_enter func203, ntmps203
    go_wp2_with fail;refine A.out.mono ?_;rintro e w1 ⟨rfl, rfl⟩;go_wp2;go_returns
    exact ⟨rfl, HT.out.set hx.out 2 (by omega) (clearF x) _ rfl hl.out, (Ch.refl F w).setCell (p := ⟨p, i * 4 + 2, none⟩) (fun _ => HT.out.fp) _, by simp⟩
theorem run_idx {P : Program} {t e : TypeId} {n sz : Nat} {cs : Array Value} {k : IntKind} {i : Nat} (h : P.underlying t = some (.array n e)) (hi : i < n) (ha : ∀ w, (isAgg e).run P w = .ok true w) (hs : ∀ w, (sizeOf e).run P w = .ok sz w) (w : World) : (Instr.index t (.agg cs) (.int k i)).run P w = .ok (.agg (cs.extract (i * sz) (i * sz + sz))) w := by
 have hn : (0 : Int) ≤ i ∧ (i : Int) < n := by omega
 have h1 := hs w
 have h2 := ha w
 simp only [Instr.index, asIntOf, Sem.run_bind, Sem.run_pure, run_underlying h, Result.andThen, if_pos hn, part, h1, h2, Int.toNat_natCast, if_true]
theorem run_idx1 {P : Program} {t e : TypeId} {n : Nat} {cs : Array Value} {k : IntKind} {i : Nat} {v : Value} (h : P.underlying t = some (.array n e)) (hi : i < n) (ha : ∀ w, (isAgg e).run P w = .ok false w) (hs : ∀ w, (sizeOf e).run P w = .ok 1 w) (hv : cs[i]? = some v) (w : World) : (Instr.index t (.agg cs) (.int k i)).run P w = .ok v w := by
 have hn : (0 : Int) ≤ i ∧ (i : Int) < n := by omega
 have h1 := hs w
 have h2 := ha w
 simp only [Instr.index, asIntOf, Sem.run_bind, Sem.run_pure, run_underlying h, Result.andThen, if_pos hn, part, h1, h2, Int.toNat_natCast, Nat.mul_one, hv, Bool.false_eq_true, if_false]
theorem run_loadAgg {P : Program} {t : TypeId} {b o : Nat} {cs : List Value} (ha : ∀ w, (isAgg t).run P w = .ok true w) (hs : ∀ w, (sizeOf t).run P w = .ok cs.length w) (w : World) (hc : ∀ j v, cs[j]? = some v → w.cell? ⟨b, o + j, none⟩ = some v) : (loadVar t ⟨b, o, none⟩).run P w = .ok (.agg cs.toArray) w := by
 have hl := run_loadCells_list (P := P) w ⟨b, o, none⟩ cs (fun j v hv => by
  have hadd : (⟨b, o, none⟩ : Addr).add j = ⟨b, o + j, none⟩ := by unfold Addr.add; split <;> simp_all
  rw [hadd]; exact hc j v hv)
 have h1 := hs w
 have h2 := ha w
 simp [loadVar, Sem.run_bind, h1, h2, hl]
theorem wpList_loadAgg {P : Program} {ops : Array Oper} {rest : List Oper} {o : Oper} {a : Act} {Q : Exit → Act → World → Prop} (hgd : o.guard = none) (ty : TypeId) (x : Operand) (ho : o.op = .load ty x) {p : Addr} {A : Array Value} (hl : (loadVar ty p).run P w = .ok (.agg A) w) (hx : a.eval x = .pointer (some p))
  (h : wpList P ops Q rest (a.put o.dst (.agg A)) w) : wpList P ops Q (o :: rest) a w :=
 wpList_plain hgd fun _ hK => by
  unfold Oper.wp execOp
  simp only [ho, hx, Instr.loadAt, Instr.sureAddr, Sem.run_bind, Sem.run_pure, Result.andThen_ok, hl]
  exact hK _ _ h
def svL (sv : Nat → Value) : List Value := (List.range 168).map sv
theorem svL_len (sv : Nat → Value) : (svL sv).length = 168 := by simp [svL]
theorem svL_get {sv : Nat → Value} {i : Nat} (h : i < 168) : (svL sv)[i]? = some (sv i) := by simp [svL, h]
theorem svL_ext (sv : Nat → Value) (k : Nat) (hk : k < 21) : (svL sv).toArray.extract (k * 8) (k * 8 + 8) = #[sv (k * 8), sv (k * 8 + 1), sv (k * 8 + 2), sv (k * 8 + 3), sv (k * 8 + 4), sv (k * 8 + 5), sv (k * 8 + 6), sv (k * 8 + 7)] := by
 apply Array.ext_getElem?
 intro i
 by_cases hi : i < 8
 ·have e1 : ((svL sv).toArray.extract (k * 8) (k * 8 + 8))[i]? = some (sv (k * 8 + i)) := by
   have h1 : k * 8 + i < 168 := by omega
   rw [Array.getElem?_extract, if_pos (by rw [List.size_toArray, svL_len]; omega), List.getElem?_toArray, svL_get h1]
  rw [e1]
  rcases (by omega : i = 0 ∨ i = 1 ∨ i = 2 ∨ i = 3 ∨ i = 4 ∨ i = 5 ∨ i = 6 ∨ i = 7) with rfl | rfl | rfl | rfl | rfl | rfl | rfl | rfl <;> rfl
 ·rw [Array.getElem?_eq_none (by rw [Array.size_extract, List.size_toArray, svL_len]; omega), Array.getElem?_eq_none (by simp; omega)]
def firstL : List (List Int) → List Int
 | [] => []
 | l :: t => if l = [] then firstL t else l
theorem firstL_at : ∀ (ls : List (List Int)) (i : Nat), i < ls.length → (∀ j, j < i → ls.getD j [] = []) → ls.getD i [] ≠ [] → firstL ls = ls.getD i []
 | [], i, h, _, _ => by simp at h
 | l :: t, 0, h, _, hn => by have hn' : l ≠ [] := hn; simp [firstL, hn']
 | l :: t, i + 1, h, hj, hn => by
  have h0 : l = [] := hj 0 (by omega)
  have := firstL_at t i (by simpa using h) (fun j hj' => by have := hj (j + 1) (by omega); simpa using this) (by simpa using hn)
  simp [firstL, h0, this]
theorem firstL_none : ∀ (ls : List (List Int)), (∀ j, j < ls.length → ls.getD j [] = []) → firstL ls = []
 | [], _ => rfl
 | l :: t, h => by
  have h0 : l = [] := h 0 (by simp)
  have := firstL_none t (fun j hj => by have := h (j + 1) (by simpa using hj); simpa using this)
  simp [firstL, h0, this]
def wheelFirst (s : Wheel) : List Int := if wheelReady s ≠ [] then wheelReady s else firstL (s.ls.take 168)
theorem wfirst_any (w : World) {s : Wheel} (h : WheelAt w F p s) : Calls prog 321 #[.pointer (some ⟨p, 0, none⟩)] w fun e w' => (∃ v, e = .returned v ∧ IntsAt w' F v (wheelFirst s)) ∧ Below w.heap.size w w' := by
 obtain ⟨mb, sv, c, h⟩ := h
 have cr : w.cell? ⟨p, 170, none⟩ = some (sv 168) := by rw [h.head.cell]; exact wheelCells_get _ _ _ 168 (by omega)
 have hI := h.ls 168 (by omega)
 obtain ⟨br, cpr, hsv⟩ := RowAt.form hI
 have hlen := h.len;unfold wheelFirst
 unfold wheelReady at *
 by_cases h0 : s.ls.getD 168 [] = []
 ·rw [if_neg (by simpa using h0)]
  rw [hsv, h0] at cr
  have hl : (loadVar 274 ⟨p, 2, none⟩).run prog w = .ok (.agg (svL sv).toArray) w := run_loadAgg (fun w => isAgg274 w) (fun w => by rw [svL_len]; exact sizeOf274 w) w (fun j v hj => by
   have hj2 : j < 168 := by have := (List.getElem?_eq_some_iff.1 hj).1; rwa [svL_len] at this
   rw [svL_get hj2] at hj
   rw [h.head.cell, wheelCells_get _ _ _ _ (by omega)]; exact hj)
  have H := Hd h
  simp only [List.length_nil] at cr
  obtain ⟨A, hA⟩ : ∃ A, A = (svL sv).toArray := ⟨_, rfl⟩
  rw [← hA] at hl;replace hA := Hd hA
  obtain ⟨g, hg⟩ : ∃ g : Nat → List Int, g = fun i => s.ls.getD i [] := ⟨_, rfl⟩
  have hI : Hid (∀ i, i < 168 → IntsAt w F (sv i) (g i)) := Hd (fun i hi => by rw [hg]; exact (H.out.ls i (by omega)).mono Col.sub)
  have hF1 : Hid ((∀ i, i < 168 → g i = []) → firstL (s.ls.take 168) = []) := Hd (fun h => firstL_none _ (fun j hj => by
   have hj2 : j < 168 := by simp at hj; omega
   have := h j hj2
   rw [hg] at this;rw [List.getD_eq_getElem?_getD, List.getElem?_take_of_lt hj2, ← List.getD_eq_getElem?_getD]
   exact this))
  have hF2 : Hid (∀ i, i < 168 → (∀ j, j < i → g j = []) → g i ≠ [] → firstL (s.ls.take 168) = g i) := Hd (fun i hi h1 h2 => by
   have e : ∀ j, j < 168 → (s.ls.take 168).getD j [] = g j := fun j hj => by
    rw [hg, List.getD_eq_getElem?_getD, List.getElem?_take_of_lt hj, ← List.getD_eq_getElem?_getD]
   rw [← e i hi]
   exact firstL_at _ i (by simp; rw [hlen]; omega) (fun j hj => by rw [e j (by omega)]; exact h1 j hj) (by rw [e i hi]; exact h2))
  have hix : Hid (∀ (k : Nat) W, k < 21 → (Instr.index 274 (.agg A) (.int .i64 k)).run prog W = .ok (.agg #[sv (k * 8), sv (k * 8 + 1), sv (k * 8 + 2), sv (k * 8 + 3), sv (k * 8 + 4), sv (k * 8 + 5), sv (k * 8 + 6), sv (k * 8 + 7)]) W) := Hd (fun k W hk => by
   rw [run_idx underlying274 hk (fun w => isAgg273 w) (fun w => sizeOf273 w) W, hA.out, svL_ext sv k hk])
  have hform : Hid (∀ i, i < 168 → ∃ b cap, sv i = .slice b (g i).length cap) := Hd (fun i hi => RowAt.form (hI.out i hi))
  generalize firstL (s.ls.take 168) = R at *
  have hFin : Hid (∀ (i n : Nat) (b : Option Addr) (cap : Nat) (W : World), i < 168 → Below w.heap.size w W → (∀ j, j < i → g j = []) → n = (g i).length → 0 < n → sv i = .slice b n cap → IntsAt W F (.slice b n cap) R) := Hd (fun i n b cap W hi hb h1 h2 h3 h4 => by
   have h5 : g i ≠ [] := fun e => by rw [e] at h2; simp at h2; omega
   rw [hF2.out i hi h1 h5, ← h4]
   exact (hI.out i hi).ch (Ch.off hb) (fun _ _ h => h))
  clear h hsv h0 hlen hg H
  go_enter func321, ntmps321
  go_wp2
  go_step3
  go_wp2
  go_step3
  go_wp2_with (refine wpList_loadAgg rfl 274 (.tmp 18) rfl hl rfl ?_)
  go_loopw [20, 3] (fun iv ov wr => ∃ k : Nat, iv = .int .i64 k ∧ k ≤ 21 ∧ Hid (∀ j, j < k * 8 → g j = []) ∧ Hid (IntsAt wr F ov []) ∧ Hid (Below w.heap.size w wr)) (fun iv _ _ => 21 - (intOf iv).toNat)
  case atStart => exact ⟨0, rfl, by omega, Hd (fun j hj => by omega), Hd (IntsAt.nil _ _), Hd (Below.refl _ _)⟩
  case round =>
   obtain ⟨k, rfl, hk, HE, HO, HB⟩ := hrel
   by_cases hlt : k < 21
   ·have ix := fun W => hix.out k W hlt
    obtain ⟨b0, c0, e0⟩ := hform.out (k * 8) (by omega)
    obtain ⟨b1, c1, e1⟩ := hform.out (k * 8 + 1) (by omega)
    obtain ⟨b2, c2, e2⟩ := hform.out (k * 8 + 2) (by omega)
    obtain ⟨b3, c3, e3⟩ := hform.out (k * 8 + 3) (by omega)
    obtain ⟨b4, c4, e4⟩ := hform.out (k * 8 + 4) (by omega)
    obtain ⟨b5, c5, e5⟩ := hform.out (k * 8 + 5) (by omega)
    obtain ⟨b6, c6, e6⟩ := hform.out (k * 8 + 6) (by omega)
    obtain ⟨b7, c7, e7⟩ := hform.out (k * 8 + 7) (by omega)
    rw [e0, e1, e2, e3, e4, e5, e6, e7] at ix
    obtain ⟨n0, hn0⟩ : ∃ n, n = (g (k * 8)).length := ⟨_, rfl⟩
    obtain ⟨n1, hn1⟩ : ∃ n, n = (g (k * 8 + 1)).length := ⟨_, rfl⟩
    obtain ⟨n2, hn2⟩ : ∃ n, n = (g (k * 8 + 2)).length := ⟨_, rfl⟩
    obtain ⟨n3, hn3⟩ : ∃ n, n = (g (k * 8 + 3)).length := ⟨_, rfl⟩
    obtain ⟨n4, hn4⟩ : ∃ n, n = (g (k * 8 + 4)).length := ⟨_, rfl⟩
    obtain ⟨n5, hn5⟩ : ∃ n, n = (g (k * 8 + 5)).length := ⟨_, rfl⟩
    obtain ⟨n6, hn6⟩ : ∃ n, n = (g (k * 8 + 6)).length := ⟨_, rfl⟩
    obtain ⟨n7, hn7⟩ : ∃ n, n = (g (k * 8 + 7)).length := ⟨_, rfl⟩
    rw [← hn0, ← hn1, ← hn2, ← hn3, ← hn4, ← hn5, ← hn6, ← hn7] at ix
    have i0 : ∀ W, (Instr.index 273 (.agg #[Value.slice b0 n0 c0, Value.slice b1 n1 c1, Value.slice b2 n2 c2, Value.slice b3 n3 c3, Value.slice b4 n4 c4, Value.slice b5 n5 c5, Value.slice b6 n6 c6, Value.slice b7 n7 c7]) (.int .i64 0)).run prog W = .ok (.slice b0 n0 c0) W := fun W => run_idx1 (P := prog) (t := 273) (k := .i64) (i := 0) underlying273 (by omega) (fun w => isAgg65 w) (fun w => sizeOf65 w) rfl W
    have i1 : ∀ W, (Instr.index 273 (.agg #[Value.slice b0 n0 c0, Value.slice b1 n1 c1, Value.slice b2 n2 c2, Value.slice b3 n3 c3, Value.slice b4 n4 c4, Value.slice b5 n5 c5, Value.slice b6 n6 c6, Value.slice b7 n7 c7]) (.int .i64 1)).run prog W = .ok (.slice b1 n1 c1) W := fun W => run_idx1 (P := prog) (t := 273) (k := .i64) (i := 1) underlying273 (by omega) (fun w => isAgg65 w) (fun w => sizeOf65 w) rfl W
    have i2 : ∀ W, (Instr.index 273 (.agg #[Value.slice b0 n0 c0, Value.slice b1 n1 c1, Value.slice b2 n2 c2, Value.slice b3 n3 c3, Value.slice b4 n4 c4, Value.slice b5 n5 c5, Value.slice b6 n6 c6, Value.slice b7 n7 c7]) (.int .i64 2)).run prog W = .ok (.slice b2 n2 c2) W := fun W => run_idx1 (P := prog) (t := 273) (k := .i64) (i := 2) underlying273 (by omega) (fun w => isAgg65 w) (fun w => sizeOf65 w) rfl W
    have i3 : ∀ W, (Instr.index 273 (.agg #[Value.slice b0 n0 c0, Value.slice b1 n1 c1, Value.slice b2 n2 c2, Value.slice b3 n3 c3, Value.slice b4 n4 c4, Value.slice b5 n5 c5, Value.slice b6 n6 c6, Value.slice b7 n7 c7]) (.int .i64 3)).run prog W = .ok (.slice b3 n3 c3) W := fun W => run_idx1 (P := prog) (t := 273) (k := .i64) (i := 3) underlying273 (by omega) (fun w => isAgg65 w) (fun w => sizeOf65 w) rfl W
    have i4 : ∀ W, (Instr.index 273 (.agg #[Value.slice b0 n0 c0, Value.slice b1 n1 c1, Value.slice b2 n2 c2, Value.slice b3 n3 c3, Value.slice b4 n4 c4, Value.slice b5 n5 c5, Value.slice b6 n6 c6, Value.slice b7 n7 c7]) (.int .i64 4)).run prog W = .ok (.slice b4 n4 c4) W := fun W => run_idx1 (P := prog) (t := 273) (k := .i64) (i := 4) underlying273 (by omega) (fun w => isAgg65 w) (fun w => sizeOf65 w) rfl W
    have i5 : ∀ W, (Instr.index 273 (.agg #[Value.slice b0 n0 c0, Value.slice b1 n1 c1, Value.slice b2 n2 c2, Value.slice b3 n3 c3, Value.slice b4 n4 c4, Value.slice b5 n5 c5, Value.slice b6 n6 c6, Value.slice b7 n7 c7]) (.int .i64 5)).run prog W = .ok (.slice b5 n5 c5) W := fun W => run_idx1 (P := prog) (t := 273) (k := .i64) (i := 5) underlying273 (by omega) (fun w => isAgg65 w) (fun w => sizeOf65 w) rfl W
    have i6 : ∀ W, (Instr.index 273 (.agg #[Value.slice b0 n0 c0, Value.slice b1 n1 c1, Value.slice b2 n2 c2, Value.slice b3 n3 c3, Value.slice b4 n4 c4, Value.slice b5 n5 c5, Value.slice b6 n6 c6, Value.slice b7 n7 c7]) (.int .i64 6)).run prog W = .ok (.slice b6 n6 c6) W := fun W => run_idx1 (P := prog) (t := 273) (k := .i64) (i := 6) underlying273 (by omega) (fun w => isAgg65 w) (fun w => sizeOf65 w) rfl W
    have i7 : ∀ W, (Instr.index 273 (.agg #[Value.slice b0 n0 c0, Value.slice b1 n1 c1, Value.slice b2 n2 c2, Value.slice b3 n3 c3, Value.slice b4 n4 c4, Value.slice b5 n5 c5, Value.slice b6 n6 c6, Value.slice b7 n7 c7]) (.int .i64 7)).run prog W = .ok (.slice b7 n7 c7) W := fun W => run_idx1 (P := prog) (t := 273) (k := .i64) (i := 7) underlying273 (by omega) (fun w => isAgg65 w) (fun w => sizeOf65 w) rfl W
    have h0 := Hd (hI.out (k * 8 + 0) (by omega))
    rw [← hn0] at e0;replace hn0 := Hd hn0;replace e0 := Hd e0
    have h1 := Hd (hI.out (k * 8 + 1) (by omega))
    rw [← hn1] at e1;replace hn1 := Hd hn1;replace e1 := Hd e1
    have h2 := Hd (hI.out (k * 8 + 2) (by omega))
    rw [← hn2] at e2;replace hn2 := Hd hn2;replace e2 := Hd e2
    have h3 := Hd (hI.out (k * 8 + 3) (by omega))
    rw [← hn3] at e3;replace hn3 := Hd hn3;replace e3 := Hd e3
    have h4 := Hd (hI.out (k * 8 + 4) (by omega))
    rw [← hn4] at e4;replace hn4 := Hd hn4;replace e4 := Hd e4
    have h5 := Hd (hI.out (k * 8 + 5) (by omega))
    rw [← hn5] at e5;replace hn5 := Hd hn5;replace e5 := Hd e5
    have h6 := Hd (hI.out (k * 8 + 6) (by omega))
    rw [← hn6] at e6;replace hn6 := Hd hn6;replace e6 := Hd e6
    have h7 := Hd (hI.out (k * 8 + 7) (by omega))
    rw [← hn7] at e7;replace hn7 := Hd hn7;replace e7 := Hd e7;clear hl;go_wp2
    refine wp_loop_rounds 9 ?_
    have hZ : Hid (∀ j, j < k * 8 → g j = []) := HE
    rw [rounds_succ]
    rcases Nat.eq_zero_or_pos n0 with z0 | z0
    rotate_left
    ·go_wp2
     rw [Exit.noGoto_ret];go_returns
     exact ⟨⟨_, rfl, hFin.out (k * 8 + 0) _ _ _ _ (by omega) (HB.out.alloc HB.out.size _) hZ.out hn0.out z0 e0.out⟩, HB.out.alloc HB.out.size _⟩
    subst z0
    replace hZ : Hid (∀ j, j < k * 8 + 1 → g j = []) := Hd (fun j hj => by
     by_cases e : j < k * 8 + 0
     ·exact hZ.out j e
     ·rw [show j = k * 8 + 0 by omega]; exact List.eq_nil_of_length_eq_zero hn0.out.symm)
    go_wp2;rw [rounds_succ]
    rcases Nat.eq_zero_or_pos n1 with z1 | z1
    rotate_left
    ·go_wp2
     rw [Exit.noGoto_ret];go_returns
     exact ⟨⟨_, rfl, hFin.out (k * 8 + 1) _ _ _ _ (by omega) (HB.out.alloc HB.out.size _) hZ.out hn1.out z1 e1.out⟩, HB.out.alloc HB.out.size _⟩
    subst z1
    replace hZ : Hid (∀ j, j < k * 8 + 2 → g j = []) := Hd (fun j hj => by
     by_cases e : j < k * 8 + 1
     ·exact hZ.out j e
     ·rw [show j = k * 8 + 1 by omega]; exact List.eq_nil_of_length_eq_zero hn1.out.symm)
    go_wp2;rw [rounds_succ]
    rcases Nat.eq_zero_or_pos n2 with z2 | z2
    rotate_left
    ·go_wp2
     rw [Exit.noGoto_ret];go_returns
     exact ⟨⟨_, rfl, hFin.out (k * 8 + 2) _ _ _ _ (by omega) (HB.out.alloc HB.out.size _) hZ.out hn2.out z2 e2.out⟩, HB.out.alloc HB.out.size _⟩
    subst z2
    replace hZ : Hid (∀ j, j < k * 8 + 3 → g j = []) := Hd (fun j hj => by
     by_cases e : j < k * 8 + 2
     ·exact hZ.out j e
     ·rw [show j = k * 8 + 2 by omega]; exact List.eq_nil_of_length_eq_zero hn2.out.symm)
    go_wp2;rw [rounds_succ]
    rcases Nat.eq_zero_or_pos n3 with z3 | z3
    rotate_left
    ·go_wp2
     rw [Exit.noGoto_ret];go_returns
     exact ⟨⟨_, rfl, hFin.out (k * 8 + 3) _ _ _ _ (by omega) (HB.out.alloc HB.out.size _) hZ.out hn3.out z3 e3.out⟩, HB.out.alloc HB.out.size _⟩
    subst z3
    replace hZ : Hid (∀ j, j < k * 8 + 4 → g j = []) := Hd (fun j hj => by
     by_cases e : j < k * 8 + 3
     ·exact hZ.out j e
     ·rw [show j = k * 8 + 3 by omega]; exact List.eq_nil_of_length_eq_zero hn3.out.symm)
    go_wp2;rw [rounds_succ]
    rcases Nat.eq_zero_or_pos n4 with z4 | z4
    rotate_left
    ·go_wp2
     rw [Exit.noGoto_ret];go_returns
     exact ⟨⟨_, rfl, hFin.out (k * 8 + 4) _ _ _ _ (by omega) (HB.out.alloc HB.out.size _) hZ.out hn4.out z4 e4.out⟩, HB.out.alloc HB.out.size _⟩
    subst z4
    replace hZ : Hid (∀ j, j < k * 8 + 5 → g j = []) := Hd (fun j hj => by
     by_cases e : j < k * 8 + 4
     ·exact hZ.out j e
     ·rw [show j = k * 8 + 4 by omega]; exact List.eq_nil_of_length_eq_zero hn4.out.symm)
    go_wp2;rw [rounds_succ]
    rcases Nat.eq_zero_or_pos n5 with z5 | z5
    rotate_left
    ·go_wp2
     rw [Exit.noGoto_ret];go_returns
     exact ⟨⟨_, rfl, hFin.out (k * 8 + 5) _ _ _ _ (by omega) (HB.out.alloc HB.out.size _) hZ.out hn5.out z5 e5.out⟩, HB.out.alloc HB.out.size _⟩
    subst z5
    replace hZ : Hid (∀ j, j < k * 8 + 6 → g j = []) := Hd (fun j hj => by
     by_cases e : j < k * 8 + 5
     ·exact hZ.out j e
     ·rw [show j = k * 8 + 5 by omega]; exact List.eq_nil_of_length_eq_zero hn5.out.symm)
    go_wp2;rw [rounds_succ]
    rcases Nat.eq_zero_or_pos n6 with z6 | z6
    rotate_left
    ·go_wp2
     rw [Exit.noGoto_ret];go_returns
     exact ⟨⟨_, rfl, hFin.out (k * 8 + 6) _ _ _ _ (by omega) (HB.out.alloc HB.out.size _) hZ.out hn6.out z6 e6.out⟩, HB.out.alloc HB.out.size _⟩
    subst z6
    replace hZ : Hid (∀ j, j < k * 8 + 7 → g j = []) := Hd (fun j hj => by
     by_cases e : j < k * 8 + 6
     ·exact hZ.out j e
     ·rw [show j = k * 8 + 6 by omega]; exact List.eq_nil_of_length_eq_zero hn6.out.symm)
    go_wp2;rw [rounds_succ]
    rcases Nat.eq_zero_or_pos n7 with z7 | z7
    rotate_left
    ·go_wp2
     rw [Exit.noGoto_ret];go_returns
     exact ⟨⟨_, rfl, hFin.out (k * 8 + 7) _ _ _ _ (by omega) (HB.out.alloc HB.out.size _) hZ.out hn7.out z7 e7.out⟩, HB.out.alloc HB.out.size _⟩
    subst z7
    replace hZ : Hid (∀ j, j < k * 8 + 8 → g j = []) := Hd (fun j hj => by
     by_cases e : j < k * 8 + 7
     ·exact hZ.out j e
     ·rw [show j = k * 8 + 7 by omega]; exact List.eq_nil_of_length_eq_zero hn7.out.symm)
    go_wp2;rw [rounds_succ];go_wp2;go_roundw
    case rel =>
     have hb2 := HB.out.alloc HB.out.size (.cells #[Value.slice b0 0 c0, Value.slice b1 0 c1, Value.slice b2 0 c2, Value.slice b3 0 c3, Value.slice b4 0 c4, Value.slice b5 0 c5, Value.slice b6 0 c6, Value.slice b7 0 c7] 273)
     refine ⟨k + 1, by go_num, hlt, Hd (fun j hj => hZ.out j (by omega)), Hd ?_, Hd hb2⟩
     have h8 := hI.out (k * 8 + 7) (by omega)
     rw [e7.out, hZ.out (k * 8 + 7) (by omega)] at h8
     exact h8.ch (Ch.off hb2) (fun _ _ h => h)
    case measure => simp [intOf]; omega
   ·have : k = 21 := by omega
    subst this;go_wp2;rw [Exit.noGoto_ret];go_returns;rw [hF1.out (fun i hi => HE.out i (by omega))]
    exact ⟨⟨_, rfl, HO.out⟩, HB.out⟩
 ·rw [if_pos (by simpa using h0)]
  have hpos : 0 < (s.ls.getD 168 []).length := List.length_pos_iff.2 h0
  rw [hsv] at cr hI;generalize s.ls.getD 168 [] = q at *;replace hI := Hd hI;clear h hsv h0 hlen
  obtain ⟨n, hn⟩ : ∃ n, n = q.length := ⟨_, rfl⟩
  rw [← hn] at cr hpos hI;replace hn := Hd hn
  go_enter func321, ntmps321
  go_wp2
  go_step3
  go_wp2;rw [Exit.noGoto_ret];go_returns
  exact ⟨⟨_, rfl, hI.out.mono Col.sub⟩, Below.refl _ _⟩
end Go.Proofs.YtiocbpabbjgkhaaGreatDoor
namespace Go.Proofs
open Go.Shelf
def Tryz.laysKeys_ren : Go.Shelf.Ren := ⟨fun | 7 => 367 | 10 => 369 | n => n, fun | 23 => 272 | 26 => 3 | 3 => 2 | 28 => 405 | 0 => 0 | 27 => 404 | 33 => 53 | 4 => 4 | n => n, fun | n => n⟩
theorem Tryz.laysKeys : Go.Proofs.SlLaysZI.n7 Tryz.prog Tryz.laysKeys_ren := {
 mixed := by kernel_rfl
 f7 := ⟨Tryz.f367.name, by decide, Tryz.func367.trans (congrArg some (by kernel_rfl))⟩
 f10 := ⟨Tryz.f369.name, by decide, Tryz.func369.trans (congrArg some (by kernel_rfl))⟩
 t0 := Tryz.underlying0
 a0 := Tryz.isAgg0
 z0 := Tryz.sizeOf0
 v0 := Tryz.zeroValue0
 t4 := Tryz.underlying4
 a4 := Tryz.isAgg4
 z4 := Tryz.sizeOf4
 v4 := Tryz.zeroValue4
 t23 := Tryz.underlying272
 a23 := Tryz.isAgg272
 z23 := Tryz.sizeOf272
 v23 := Tryz.zeroValue272
 t26 := Tryz.underlying3
 a26 := Tryz.isAgg3
 z26 := Tryz.sizeOf3
 v26 := Tryz.zeroValue3
 t27 := Tryz.underlying404
 a27 := Tryz.isAgg404
 z27 := Tryz.sizeOf404
 v27 := Tryz.zeroValue404
 t28 := Tryz.underlying405
 a28 := Tryz.isAgg405
 z28 := Tryz.sizeOf405
 v28 := Tryz.zeroValue405
 t33 := Tryz.underlying53
 a33 := Tryz.isAgg53
 z33 := Tryz.sizeOf53
 v33 := Tryz.zeroValue53 }
def Tryz.laysCollect_ren : Go.Shelf.Ren := ⟨fun | 8 => 366 | 11 => 368 | n => n, fun | 26 => 3 | 28 => 405 | 24 => 65 | 0 => 0 | 33 => 53 | 4 => 4 | n => n, fun | n => n⟩
theorem Tryz.laysCollect : Go.Proofs.SlLaysZI.n8 Tryz.prog Tryz.laysCollect_ren := {
 mixed := by kernel_rfl
 f8 := ⟨Tryz.f366.name, by decide, Tryz.func366.trans (congrArg some (by kernel_rfl))⟩
 f11 := ⟨Tryz.f368.name, by decide, Tryz.func368.trans (congrArg some (by kernel_rfl))⟩
 t0 := Tryz.underlying0
 a0 := Tryz.isAgg0
 z0 := Tryz.sizeOf0
 v0 := Tryz.zeroValue0
 t24 := Tryz.underlying65
 a24 := Tryz.isAgg65
 z24 := Tryz.sizeOf65
 v24 := Tryz.zeroValue65
 t26 := Tryz.underlying3
 a26 := Tryz.isAgg3
 z26 := Tryz.sizeOf3
 v26 := Tryz.zeroValue3
 t28 := Tryz.underlying405
 a28 := Tryz.isAgg405
 z28 := Tryz.sizeOf405
 v28 := Tryz.zeroValue405
 i26 := by kernel_rfl }
end Go.Proofs
