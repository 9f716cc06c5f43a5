/- Part 21 of the proof: contracts and plain laws, each under the conditions that it names. -/
import Derived.Test.YtiocbpabbjgkhaaGreatDoorPart20
import Derived.Deep.RegionHeld3
import Derived.Deep.RegionHeld
set_option maxRecDepth 100000
set_option maxHeartbeats 20000000
set_option linter.unusedVariables false
set_option linter.unusedSimpArgs false
namespace Go.Proofs.YtiocbpabbjgkhaaGreatDoor
open Go.RowKit Tryz
variable {w w' : World} {F : Nat → Prop} {p : Nat} {f : KF} {k : K}
theorem KAt.gl (h : KAt w F p f k) : k.gv.length = k.cpus := by
 obtain ⟨c, h⟩ := h
 exact h.gl
theorem KAt.gopen (h : KAt w F p f k) : ∃ g gc, f.gv = .slice (some ⟨g, 0, none⟩) k.cpus gc ∧ k.cpus ≤ gc ∧ gc ≤ maxLen ∧ F g ∧ ∀ j, j < k.cpus → w.cell? ⟨g, j, none⟩ = some (.pointer (some ⟨f.gp j, 0, none⟩)) := by
 obtain ⟨c, h⟩ := h
 obtain ⟨g, cap, h1, h2, h3, h4, _, h5, _⟩ := h.row.open h.n1
 exact ⟨g, cap, h1, h2, h3, h4.1, fun j hj => h5 j _ (ptrL_get hj)⟩
theorem KAt.kvset (h : KAt w F p f k) (i : Nat) (hi : i < k.cpus) (lo hi' : Int) : Calls prog 246 #[.pointer (some ⟨f.gp i, 0, none⟩), .int .i64 lo, .int .i64 hi'] w fun e w' => e = .returned (.int .i64 (if rightG lo hi' then 0 else 2)) ∧ KS w w' F p f { k with gv := k.gv.set i (if rightG lo hi' then (lo, hi') else k.gv.getD i (0, 0)) } := by
 obtain ⟨c, H⟩ := h
 have hg : i < k.gv.length := by rw [H.gl]; exact hi
 refine (vset_any w (H.gs i hg) lo hi').mono ?_
 rintro e w' ⟨he, h1, h2, -⟩
 exact ⟨he, (H.t_gs hg (h1.mono Plus.sub) h2).turned h2⟩
theorem KAt.kvfeed (h : KAt w F p f k) (i : Nat) (hi : i < k.cpus) (busy all : Int) : Calls prog 210 #[.pointer (some ⟨f.gp i, 0, none⟩), .int .i64 busy, .int .i64 all] w fun e w' => Fed e ∧ KS w w' F p f k := by
 obtain ⟨c, H⟩ := h
 have hg : i < k.gv.length := by rw [H.gl]; exact hi
 refine (vfeed_any w (H.gs i hg) busy all).mono ?_
 rintro e w' ⟨he, h1, h2⟩
 have := (H.t_gs hg (h1.mono Plus.sub) h2).turned h2
 rw [set_same hg] at this
 exact ⟨he, this⟩
theorem KAt.kmwork (h : KAt w F p f k) (cpu ticks power : Int) : Calls prog 212 #[.pointer (some ⟨f.pt 13, 0, none⟩), .int .i64 cpu, .int .i64 ticks, .int .i64 power] w fun e w' => Told e ∧ KS w w' F p f k := by
 obtain ⟨c, H⟩ := h;refine (mwork_any w H.mt cpu ticks power).mono ?_;rintro e w' ⟨he, h1, h2⟩
 exact ⟨he, (H.t_mt (h1.mono Plus.sub) h2).turned h2⟩
theorem KAt.kmrest (h : KAt w F p f k) (cpu way ticks power : Int) : Calls prog 211 #[.pointer (some ⟨f.pt 13, 0, none⟩), .int .i64 cpu, .int .i64 way, .int .i64 ticks, .int .i64 power] w fun e w' => Told e ∧ KS w w' F p f k := by
 obtain ⟨c, H⟩ := h;refine (mrest_any w H.mt cpu way ticks power).mono ?_;rintro e w' ⟨he, h1, h2⟩
 exact ⟨he, (H.t_mt (h1.mono Plus.sub) h2).turned h2⟩
def mapTo {α : Type} (g : α → α) (l : List α) (j : Nat) : List α := (l.take j).map g ++ l.drop j
theorem mapTo_len {α : Type} (g : α → α) (l : List α) (j : Nat) : (mapTo g l j).length = l.length := by simp [mapTo]; omega
theorem mapTo_zero {α : Type} (g : α → α) (l : List α) : mapTo g l 0 = l := by simp [mapTo]
theorem mapTo_all {α : Type} (g : α → α) (l : List α) : mapTo g l l.length = l.map g := by simp [mapTo]
theorem mapTo_get {α : Type} (g : α → α) (l : List α) (j : Nat) (d : α) (hj : j < l.length) : (mapTo g l j).getD j d = l.getD j d := by
 unfold mapTo
 have e : (List.map g (l.take j)).length = j := by simp; omega
 rw [List.getD_eq_getElem?_getD, List.getElem?_append_right (by omega), e, Nat.sub_self, List.getElem?_drop, Nat.add_zero, List.getD_eq_getElem?_getD]
theorem mapTo_step {α : Type} (g : α → α) (l : List α) (j : Nat) (d : α) (hj : j < l.length) : (mapTo g l j).set j (g (l.getD j d)) = mapTo g l (j + 1) := by
 unfold mapTo
 have e : (List.map g (l.take j)).length = j := by simp; omega
 have hg : l[j]? = some (l.getD j d) := by rw [List.getD_eq_getElem?_getD, List.getElem?_eq_getElem hj]; rfl
 rw [List.set_append_right _ _ (by omega), e, Nat.sub_self, List.take_add_one, hg]
 have hd : l.drop j = l.getD j d :: l.drop (j + 1) := by
  rw [List.drop_eq_getElem_cons hj]
  congr 1
  rw [List.getD_eq_getElem?_getD, List.getElem?_eq_getElem hj]
  rfl
 rw [hd, List.set_cons_zero]
 simp
def speedG (lo hi : Int) (s : Int × Int) : Int × Int := if rightG lo hi then (lo, hi) else s
def speedTo (k : K) (lo hi : Int) (j : Nat) : K := { k with gv := mapTo (speedG lo hi) k.gv j }
def speedWhy (lo hi : Int) (j : Nat) : Int := if j = 0 then 0 else if rightG lo hi then 0 else 2
def kSpeed (k : K) (lo hi : Int) : K := speedTo k lo hi k.cpus
def kSpeedR (k : K) (lo hi : Int) : Int := speedWhy lo hi k.cpus
theorem KAt.kspeed (h : KAt w F p f k) (lo hi : Int) : Calls prog 171 #[.pointer (some ⟨p, 0, none⟩), .int .i64 lo, .int .i64 hi] w fun e w' => e = .returned (.int .i64 (kSpeedR k lo hi)) ∧ KS w w' F p f (kSpeed k lo hi) := by
 have hgl := h.gl;obtain ⟨g, gc, hgv, hle, hgm, -, -⟩ := h.gopen;have c14 := h.hgv;rw [hgv] at c14;replace hgv := Hd hgv;have hn64 := h.n64;have H0 := Hd h;have HK := Hd h;have HL := Hd (Lk.refl w F);clear h;unfold kSpeedR kSpeed
 obtain ⟨n, hn⟩ : ∃ n, n = k.cpus := ⟨_, rfl⟩
 rw [← hn] at c14 hle hn64 hgl ⊢;replace hn := Hd hn
 go_enter func171, ntmps171
 go_wp2
 go_loopw [16, 7, 9] (fun iv yv _ wr => ∃ (j : Nat) (F' : Nat → Prop), iv = .int .i64 j ∧ j ≤ n ∧ yv = .int .i64 (speedWhy lo hi j) ∧ Hid (KAt wr F' p f (speedTo k lo hi j)) ∧ Hid (Lk w F wr F')) (fun iv _ _ _ => n - (intOf iv).toNat)
 case atStart => exact ⟨0, F, rfl, by omega, rfl, Hd (by unfold speedTo; rw [mapTo_zero]; exact HK.out), Hd (Lk.refl _ _)⟩
 case round =>
  clear HK HL;obtain ⟨j, F', rfl, hj, rfl, HK, HL⟩ := hrel
  by_cases hlt : j < n
  ·have hjl : j < k.gv.length := by omega
   have hjc : j < k.cpus := by rw [← hn.out]; exact hlt
   obtain ⟨g2, gc2, hgv2, -, -, -, hg2⟩ := HK.out.gopen
   have hg3 := hg2 j hjc
   rw [slice_base (hgv.out.symm.trans hgv2)] at hg3;clear hg2 hgv2
   have hst : ∀ s, s = speedG lo hi (k.gv.getD j (0, 0)) → ({ (speedTo k lo hi j) with gv := (speedTo k lo hi j).gv.set j s } : K) = speedTo k lo hi (j + 1) := by
    rintro s rfl;unfold speedTo;dsimp only;rw [mapTo_step _ _ _ _ hjl]
   have B := HK.out.kvset j hjc lo hi
   rw [hst _ (by unfold speedG speedTo; dsimp only; rw [mapTo_get _ _ _ _ hjl])] at B
   have hwy : speedWhy lo hi (j + 1) = if rightG lo hi then 0 else 2 := by unfold speedWhy; rw [if_neg (by omega)]
   rw [← hwy] at B;replace B := Hd B;clear hst;replace hwy := Hd hwy;go_wp2_with fail;refine B.out.mono ?_;rintro e w1 ⟨rfl, S⟩;replace S := S.nx HL.out;clear HL HK;obtain ⟨F1, HK, HL⟩ := S
   try dsimp only at HK
   go_wp2;go_roundw
   case rel => exact ⟨j + 1, _, by go_num, hlt, rfl, HK, HL⟩
   case measure => simp [intOf]; omega
  ·have : j = n := by omega
   subst this;go_wp2;go_returns
   exact ⟨rfl, HK.out.close HL.out H0.out⟩
def kTake (k : K) (cpu : Int) : K := { k with co := (coreSet k.co cpu takeF).1 }
theorem KAt.kmeet (h : KAt w F p f k) (i : Nat) (hi : i < k.cpus) (c : Core) (hw : c.idle = true → 0 ≤ c.way ∧ c.way < 4) (ticks : Int) : Calls prog 127 #[.pointer (some ⟨p, 0, none⟩), .int .i64 i, .agg #[.bool c.power, .bool c.idle, .int .i64 c.way, .int .i64 c.since, .int .i64 c.steps, .int .i64 c.busy], .int .i64 ticks] w fun e w' => e = .returned (.tuple #[]) ∧ KS w w' F p f (kTake k i) := by
 have hn64 := h.n64;have H0 := Hd h;have HK := Hd h;have HL := Hd (Lk.refl w F);clear h;obtain ⟨power, idle, way, since, steps, busy⟩ := c;dsimp only at hw ⊢;unfold kTake
 have HX := HK.out.bx HL.out #[.bool power, .bool idle, .int .i64 way, .int .i64 since, .int .i64 steps, .int .i64 busy] 32
 clear HL HK;obtain ⟨HB, HK, HL⟩ := HX
 have P := HK.out.kctake i
 have c12 := HK.out.h12
 obtain ⟨u, hu⟩ : ∃ u, u = coreSet k.co i takeF := ⟨_, rfl⟩
 rw [← hu] at P ⊢;generalize coreBusy k.co i = x1 at P;generalize coreSteps k.co i = x2 at P;obtain ⟨co, x3⟩ := u;dsimp only at P ⊢;replace P := Hd P;replace hu := Hd hu
 cases idle with
 | false =>
  clear hw;have b1 := HB.out.cell 1
  go_enter func127, ntmps127
  go_wp2_with fail;refine P.out.mono ?_;rintro e w1 ⟨rfl, S⟩;clear P c12 b1;obtain ⟨F1, L1, K1⟩ := S.open;clear S
  try dsimp only at K1
  replace HB := Hd (HB.out.lk L1);replace HL := Hd (HL.out.trans L1);replace HK := Hd K1;clear L1 K1;obtain ⟨g, gc, hgv, hle, hgm, -, hg⟩ := HK.out.gopen;have c14 := HK.out.hgv;rw [hgv] at c14
  have hcell := hg i hi
  have P := Hd (HK.out.kvfeed i hi x1 x2);clear hgv hg;dsimp only at c14 hle
  obtain ⟨n, hn⟩ : ∃ n, n = k.cpus := ⟨_, rfl⟩
  have hi' := hi;rw [← hn] at c14 hle hi' hn64;replace hn := Hd hn;replace hi := Hd hi;go_wp2_with fail;refine P.out.mono ?_;rintro e w1 ⟨⟨sp, y, rfl, -, -⟩, S⟩;clear P c14 hcell;obtain ⟨F1, L1, K1⟩ := S.open;clear S
  try dsimp only at K1
  replace HB := Hd (HB.out.lk L1);replace HL := Hd (HL.out.trans L1);replace HK := Hd K1;clear L1 K1;have b1 := HB.out.cell 1;have P := Hd (HK.out.kmwork i ticks sp);have c13 := HK.out.h13;go_wp2_with fail;refine P.out.mono ?_;rintro e w1 ⟨⟨z, rfl⟩, S⟩;clear P c13;obtain ⟨F1, L1, K1⟩ := S.open;clear S
  try dsimp only at K1
  replace HB := Hd (HB.out.lk L1);replace HL := Hd (HL.out.trans L1);replace HK := Hd K1;clear L1 K1;go_wp2;go_end0
  exact ⟨rfl, HK.out.close HL.out H0.out⟩
 | true =>
  have hw := hw rfl
  have b1 := HB.out.cell 1
  go_enter func127, ntmps127
  go_wp2_with fail;refine P.out.mono ?_;rintro e w1 ⟨rfl, S⟩;clear P c12 b1;obtain ⟨F1, L1, K1⟩ := S.open;clear S
  try dsimp only at K1
  replace HB := Hd (HB.out.lk L1);replace HL := Hd (HL.out.trans L1);replace HK := Hd K1;clear L1 K1;obtain ⟨g, gc, hgv, hle, hgm, -, hg⟩ := HK.out.gopen;have c14 := HK.out.hgv;rw [hgv] at c14
  have hcell := hg i hi
  have P := Hd (HK.out.kvfeed i hi x1 x2);clear hgv hg;dsimp only at c14 hle
  obtain ⟨n, hn⟩ : ∃ n, n = k.cpus := ⟨_, rfl⟩
  have hi' := hi;rw [← hn] at c14 hle hi' hn64;replace hn := Hd hn;replace hi := Hd hi;go_wp2_with fail;refine P.out.mono ?_;rintro e w1 ⟨⟨sp, y, rfl, -, -⟩, S⟩;clear P c14 hcell;obtain ⟨F1, L1, K1⟩ := S.open;clear S
  try dsimp only at K1
  replace HB := Hd (HB.out.lk L1);replace HL := Hd (HL.out.trans L1);replace HK := Hd K1;clear L1 K1;have b1 := HB.out.cell 1;have b2 := HB.out.cell 2;have c13 := HK.out.h13
  have HT := Hd (HK.out.alloc (.cells tableCells 45))
  have d13 := HT.out.h13
  have HB2 := Hd (HB.out.alloc (.cells tableCells 45))
  have d1 := HB2.out.cell 1;have d2 := HB2.out.cell 2
  have TB := Blk.new w1 tableCells 45
  have T : Calls prog 10 #[] w1.drew fun e w' => e = .returned (.slice (some ⟨w1.heap.size, 0, none⟩) 4 4) ∧ w' = (w1.alloc (.cells tableCells 45)).drew := table_all w1.drew
  replace T := Hd T
  replace HL := Hd (HL.out.alloc (.cells tableCells 45))
  clear d1
  obtain ⟨hw0, hw4⟩ : 0 ≤ way ∧ way < 4 := by simpa using hw
  have hwn : ¬ way < 0 := by omega
  obtain ⟨pw, tc⟩ : ∃ pw : Int, ((w1.alloc (.cells tableCells 45)).drew).cell? ⟨w1.heap.size, way.toNat * 3 + 2, none⟩ = some (.int .i64 pw) := by
   have hcase : way = 0 ∨ way = 1 ∨ way = 2 ∨ way = 3 := by omega
   rcases hcase with rfl | rfl | rfl | rfl
   ·exact ⟨_, TB.cell 2⟩
   ·exact ⟨_, TB.cell 5⟩
   ·exact ⟨_, TB.cell 8⟩
   ·exact ⟨_, TB.cell 11⟩
  have R := Hd ((HT.out.drewN 1).kmrest i way ticks pw)
  clear TB;go_wp2_with fail
  refine wp_region_held_drew (S := fun w' => w'.cell? ⟨p, 13, none⟩ = some (.pointer (some ⟨f.pt 13, 0, none⟩)) ∧ w'.cell? ⟨w.heap.size, 2, none⟩ = some (.int .i64 way)) (by kernel_rfl) ⟨c13, b2⟩ (fun hHeld => ?_)
  refine wpAnyH_take (i := 0) (oi := ?_) (v := ?_) ?_ (by kernel_rfl) (by kernel_rfl) (by kernel_rfl) ?_ (Or.inl ⟨?_, ?_⟩) hHeld ?_
  rotate_left 2
  ·rfl
  ·exact fun _ _ _ h => h
  ·rfl
  ·intro w' hSw; (try dsimp only at hSw); go_simp; (try with_reducible rfl)
  (try simp only [Act.put, sA, sB, sC])
  refine wpAnyH_take (i := 1) (oi := ?_) (v := ?_) ?_ (by kernel_rfl) (by kernel_rfl) (by kernel_rfl) ?_ (Or.inl ⟨?_, ?_⟩) hHeld ?_
  rotate_left 2
  ·rfl
  ·exact fun _ _ _ h => h
  ·rfl
  ·intro w' hSw; (try dsimp only at hSw); go_simp; (try with_reducible rfl)
  (try simp only [Act.put, sA, sB, sC])
  refine wpAnyH_take (i := 2) (oi := ?_) (v := ?_) ?_ (by kernel_rfl) (by kernel_rfl) (by kernel_rfl) ?_ (Or.inl ⟨?_, ?_⟩) hHeld ?_
  rotate_left 2
  ·rfl
  ·exact fun _ _ _ h => h
  ·rfl
  ·intro w' hSw; (try dsimp only at hSw); go_simp; (try with_reducible rfl)
  (try simp only [Act.put, sA, sB, sC])
  refine wpAnyH_take (i := 3) (oi := ?_) (v := ?_) ?_ (by kernel_rfl) (by kernel_rfl) (by kernel_rfl) ?_ (Or.inl ⟨?_, ?_⟩) hHeld ?_
  rotate_left 2
  ·rfl
  ·exact fun _ _ _ h => h
  ·rfl
  ·intro w' hSw; (try dsimp only at hSw); go_simp; (try with_reducible rfl)
  (try simp only [Act.put, sA, sB, sC])
  refine wpAnyH_take (i := 4) (oi := ?_) (v := ?_) ?_ (by kernel_rfl) (by kernel_rfl) (by kernel_rfl) ?_ (Or.inl ⟨?_, ?_⟩) hHeld ?_
  rotate_left 2
  ·rfl
  ·exact fun _ _ _ h => h
  ·rfl
  ·intro w' hSw; (try dsimp only at hSw); go_simp; (try with_reducible rfl)
  (try simp only [Act.put, sA, sB, sC])
  refine wpAnyH_take (i := 5) (oi := ?_) (v := ?_) ?_ (by kernel_rfl) (by kernel_rfl) (by kernel_rfl) ?_ (Or.inl ⟨?_, ?_⟩) hHeld ?_
  rotate_left 2
  ·rfl
  ·exact fun _ _ _ h => h
  ·rfl
  ·intro w' hSw; (try dsimp only at hSw); go_simp; (try with_reducible rfl)
  (try simp only [Act.put, sA, sB, sC])
  refine wpAnyH_take (i := 6) (oi := ?_) (v := ?_) ?_ (by kernel_rfl) (by kernel_rfl) (by kernel_rfl) ?_ (Or.inl ⟨?_, ?_⟩) hHeld ?_
  rotate_left 2
  ·rfl
  ·exact fun _ _ _ h => h
  ·rfl
  ·intro w' hSw; (try dsimp only at hSw); go_simp; (try with_reducible rfl)
  (try simp only [Act.put, sA, sB, sC])
  refine wpAnyH_take (i := 7) (oi := ?_) (v := ?_) ?_ (by kernel_rfl) (by kernel_rfl) (by kernel_rfl) ?_ (Or.inl ⟨?_, ?_⟩) hHeld ?_
  rotate_left 2
  ·rfl
  ·exact fun _ _ _ h => h
  ·rfl
  ·intro w' hSw; (try dsimp only at hSw); go_simp; (try with_reducible rfl)
  (try simp only [Act.put, sA, sB, sC])
  refine wpAnyH_take (i := 8) (oi := ?_) (v := ?_) ?_ (by kernel_rfl) (by kernel_rfl) (by kernel_rfl) ?_ (Or.inl ⟨?_, ?_⟩) hHeld ?_
  rotate_left 2
  ·rfl
  ·exact fun _ _ _ h => h
  ·rfl
  ·intro w' hSw; (try dsimp only at hSw); go_simp; (try with_reducible rfl)
  (try simp only [Act.put, sA, sB, sC])
  refine wpAnyH_take (i := 10) (oi := ?_) (v := ?_) ?_ (by kernel_rfl) (by kernel_rfl) (by kernel_rfl) ?_ (Or.inl ⟨?_, ?_⟩) hHeld ?_
  rotate_left 2
  ·rfl
  ·exact fun _ _ _ h => h
  ·rfl
  ·intro w' hSw; (try dsimp only at hSw); go_simp; (try with_reducible rfl)
  (try simp only [Act.put, sA, sB, sC])
  refine wpAnyH_take (i := 11) (oi := ?_) (v := ?_) ?_ (by kernel_rfl) (by kernel_rfl) (by kernel_rfl) ?_ (Or.inl ⟨?_, ?_⟩) hHeld ?_
  rotate_left 2
  ·rfl
  ·exact fun _ _ _ h => h
  ·rfl
  ·intro w' hSw; (try dsimp only at hSw); go_simp; (try with_reducible rfl)
  (try simp only [Act.put, sA, sB, sC])
  refine wpAnyH_ready (rs := [9]) (by kernel_rfl) (by simp) ?_
  refine AllReadyH.cons (o := ?_) ?_ (fun K hK => ?_) AllReadyH.nil
  rotate_left 1
  ·rfl
  go_simp
  (refine T.out.mono ?_; rintro e w3 ⟨rfl, rfl⟩)
  refine hK.out _ _ ⟨d13, d2⟩ (fun hHeld => ?_)
  clear hK K
  (try simp only [Act.put, sA, sB, sC])
  refine wpAnyH_take (i := 12) (oi := ?_) (v := ?_) ?_ (by kernel_rfl) (by kernel_rfl) (by kernel_rfl) ?_ (Or.inl ⟨?_, ?_⟩) hHeld ?_
  rotate_left 2
  ·rfl
  ·exact fun _ _ _ h => h
  ·rfl
  ·intro w' hSw; (try dsimp only at hSw); go_simp; (try with_reducible rfl)
  (try simp only [Act.put, sA, sB, sC])
  refine wpAnyH_take (i := 13) (oi := ?_) (v := ?_) ?_ (by kernel_rfl) (by kernel_rfl) (by kernel_rfl) ?_ (Or.inl ⟨?_, ?_⟩) hHeld ?_
  rotate_left 2
  ·rfl
  ·exact fun _ _ _ h => h
  ·rfl
  ·intro w' hSw; (try dsimp only at hSw); go_simp; (try with_reducible rfl)
  (try simp only [Act.put, sA, sB, sC])
  refine wpAnyH_ready (rs := [14]) (by kernel_rfl) (by simp) ?_
  refine AllReadyH.cons (o := ?_) ?_ (fun K hK => ?_) AllReadyH.nil
  rotate_left 1
  ·rfl
  go_simp
  refine hK.out _ _ ⟨d13, d2⟩ (fun hHeld => ?_)
  clear hK K
  (try simp only [Act.put, sA, sB, sC])
  refine wpAnyH_ready (rs := [15]) (by kernel_rfl) (by simp) ?_
  refine AllReadyH.cons (o := ?_) ?_ (fun K hK => ?_) AllReadyH.nil
  rotate_left 1
  ·rfl
  go_simp
  (refine R.out.mono ?_; rintro e w3 ⟨⟨z, rfl⟩, S⟩)
  refine hK.out _ _ ⟨S.1.h13, (S.keep HB2.out.blk HB2.out.off).cell 2⟩ (fun hHeld => ?_)
  clear hK K
  (try simp only [Act.put, sA, sB, sC])
  refine wpAnyH_done (by kernel_rfl) ?_ _
  go_wp2_with fail;replace HL := Hd (HL.out.drewN 1);replace S := S.nx HL.out;clear HL HK;obtain ⟨F1, HK, HL⟩ := S
  try dsimp only at HK
  go_end0
  exact ⟨rfl, HK.out.close HL.out H0.out⟩
section
open Go.Proofs.YtiocbpabbjgkhaaGreatDoor.NumD
def tickC (c : Core) : Core := if c.power then (takeF c).1 else c
def tickTo (k : K) (j : Nat) : K := { k with co := mapTo tickC k.co j }
def kTick (k : K) (n : Int) : K := if (laterF k.now n).2 ≠ 0 then k else { k with co := mapTo tickC k.co k.cpus, now := (laterF k.now n).1, tm := (timersGo k.tm (laterF k.now n).1).1 }
def kTickR (k : K) (n : Int) : Int := if (laterF k.now n).2 ≠ 0 then (laterF k.now n).2 else (timersGo k.tm (laterF k.now n).1).2
theorem laterF_in {now n : Int} (h : (laterF now n).2 = 0) (h0 : 0 ≤ now) : 0 ≤ (laterF now n).1 ∧ (laterF now n).1 ≤ 1152921504606846976 := by
 unfold laterF at h ⊢
 split at h
 ·exact absurd h (by decide)
 ·rename_i hb
  rw [if_neg hb]
  split at h
  ·exact absurd h (by decide)
  ·rename_i h2
   rw [if_neg h2];unfold badLater at hb;dsimp only
   omega
theorem coreGet_in {l : List Core} {i : Nat} (h : i < l.length) : coreGet l i = (l.getD i noCore, 0) := by
 unfold coreGet
 have e : mayF l.length (i : Int) = 0 := by unfold mayF; rw [if_neg (by omega)]
 rw [if_neg (by simp [e]), Int.toNat_natCast]
theorem coreSet_in {l : List Core} {i : Nat} (h : i < l.length) (g : Core → Core × Int) : coreSet l i g = (l.set i (g (l.getD i noCore)).1, (g (l.getD i noCore)).2) := by
 unfold coreSet
 have e : mayF l.length (i : Int) = 0 := by unfold mayF; rw [if_neg (by omega)]
 rw [if_neg (by simp [e]), Int.toNat_natCast]
theorem KAt.ktick (h : KAt w F p f k) (hf : fewT k.tm) (hlc : k.co.length = k.cpus) (hway : ∀ c ∈ k.co, c.idle = true → 0 ≤ c.way ∧ c.way < 4) (n : Int) (hn : In64 n) : Calls prog 81 #[.pointer (some ⟨p, 0, none⟩), .int .i64 n] w fun e w' => e = .returned (.int .i64 (kTickR k n)) ∧ KS w w' F p f (kTick k n) := by
 have A := later_any k.now n w h.in_now hn
 have hin := laterF_in (now := k.now) (n := n)
 have hnw := h.nw;have c18 := h.hnw;have hn64 := h.n64;replace hf := Hd hf;have H0 := Hd h;have HK := Hd h;have HL := Hd (Lk.refl w F);clear h;unfold kTick kTickR
 obtain ⟨l, hl⟩ : ∃ l, l = laterF k.now n := ⟨_, rfl⟩
 rw [← hl] at A hin ⊢;replace A := Hd A;obtain ⟨l1, l2⟩ := l;dsimp only at A hin ⊢;replace hl := Hd hl
 by_cases e2 : l2 = 0
 ·subst e2
  rw [if_neg (show ¬ ((0 : Int) ≠ 0) by decide), if_neg (show ¬ ((0 : Int) ≠ 0) by decide)];have hin2 := Hd (hin rfl hnw.1);clear hin hnw;have c15 := HK.out.hcp
  obtain ⟨m, hm⟩ : ∃ m, m = k.cpus := ⟨_, rfl⟩
  rw [← hm] at c15 hn64 hlc;replace hm := Hd hm;replace hway := Hd hway
  go_enter func81, ntmps81
  go_wp2_with fail;refine A.out.mono ?_;rintro e w1 ⟨rfl, rfl⟩;clear A c18;go_wp2
  go_loopw [26, 7, 8, 9] (fun iv _ _ _ wr => ∃ (j : Nat) (F' : Nat → Prop), iv = .int .i64 j ∧ j ≤ m ∧ Hid (KAt wr F' p f (tickTo k j)) ∧ Hid (Lk w F wr F')) (fun iv _ _ _ _ => m - (intOf iv).toNat)
  case atStart => exact ⟨0, F, rfl, by omega, Hd (by unfold tickTo; rw [mapTo_zero]; exact HK.out), Hd (Lk.refl _ _)⟩
  case round =>
   clear HK HL;obtain ⟨j, F', rfl, hj, HK, HL⟩ := hrel
   by_cases hlt : j < m
   ·have hjl : j < k.co.length := by omega
    have hjl2 : j < (tickTo k j).co.length := by unfold tickTo; dsimp only; rw [mapTo_len]; exact hjl
    have P := HK.out.kcget j
    rw [coreGet_in hjl2] at P
    have hg : (tickTo k j).co.getD j noCore = k.co.getD j noCore := by unfold tickTo; dsimp only; rw [mapTo_get _ _ _ _ hjl]
    rw [hg] at P
    have hw2 := hway.out (k.co.getD j noCore) (by rw [List.getD_eq_getElem?_getD, List.getElem?_eq_getElem hjl]; exact List.getElem_mem hjl)
    have hcp : j < (tickTo k j).cpus := by show j < k.cpus; rw [← hm.out]; exact hlt
    have hst : tickTo k (j + 1) = if (k.co.getD j noCore).power then kTake (tickTo k j) j else tickTo k j := by
     unfold kTake;rw [coreSet_in hjl2, hg];unfold tickTo;dsimp only;rw [← mapTo_step tickC k.co j noCore hjl];rw [show tickC (k.co.getD j noCore) = if (k.co.getD j noCore).power then (takeF (k.co.getD j noCore)).1 else k.co.getD j noCore from rfl]
     split
     ·rfl
     ·congr 1
      conv => rhs; rw [← set_same (l := mapTo tickC k.co j) (d := noCore) (show j < _ by rw [mapTo_len]; exact hjl)]
      rw [mapTo_get _ _ _ _ hjl]
    clear hg
    obtain ⟨c, hc⟩ : ∃ c, c = k.co.getD j noCore := ⟨_, rfl⟩
    rw [← hc] at P hst hw2;replace hc := Hd hc;obtain ⟨power, idle, way, since, steps, busy⟩ := c
    dsimp only [coreL] at P hst hw2
    replace P := Hd P;have c12 := HK.out.h12
    cases power with
    | false =>
     rw [if_neg (by decide)] at hst;replace hst := Hd hst;go_wp2_with fail;refine P.out.mono ?_;rintro e w1 ⟨rfl, S⟩;replace HL := Hd (HL.out.below S);replace HK := Hd (HK.out.below S);clear S
     have HX := HK.out.bx HL.out #[.bool false, .bool idle, .int .i64 way, .int .i64 since, .int .i64 steps, .int .i64 busy] 32
     clear HL HK;obtain ⟨HB, HK, HL⟩ := HX;have b0 := HB.out.cell 0;go_wp2;go_roundw
     case rel => exact ⟨j + 1, _, by go_num, hlt, by rw [hst.out]; exact HK, HL⟩
     case measure => simp [intOf]; omega
    | true =>
     rw [if_pos rfl] at hst;replace hst := Hd hst;go_wp2_with fail;refine P.out.mono ?_;rintro e w1 ⟨rfl, S⟩;replace HL := Hd (HL.out.below S);replace HK := Hd (HK.out.below S);clear S
     have HX := HK.out.bx HL.out #[.bool true, .bool idle, .int .i64 way, .int .i64 since, .int .i64 steps, .int .i64 busy] 32
     clear HL HK;obtain ⟨HB, HK, HL⟩ := HX;have b0 := HB.out.cell 0;have b1 := HB.out.cell 1;have b2 := HB.out.cell 2;have b3 := HB.out.cell 3;have b4 := HB.out.cell 4;have b5 := HB.out.cell 5;have Q := Hd (HK.out.kmeet j hcp ⟨true, idle, way, since, steps, busy⟩ hw2 n);clear hw2;go_wp2_with fail;refine Q.out.mono ?_;rintro e w1 ⟨rfl, S⟩;replace S := S.nx HL.out;clear HL HK;obtain ⟨F1, HK, HL⟩ := S
     try dsimp only at HK
     go_wp2;go_roundw
     case rel => exact ⟨j + 1, _, by go_num, hlt, by rw [hst.out]; exact HK, HL⟩
     case measure => simp [intOf]; omega
   ·have hjm : Hid (j = m) := Hd (by omega)
    have fr := HK.out.frozen 18;have c18 := HK.out.hnw
    have S := HK.out.set_now l1 hin2.out
    replace S := S.nx HL.out;clear HL HK;obtain ⟨F1, HK, HL⟩ := S
    try dsimp only at HK
    have c2 := HK.out.h2
    have P := HK.out.ktgo hf.out l1
    replace P := Hd P;go_wp2_with fail;refine P.out.mono ?_;rintro e w1 ⟨rfl, S⟩;replace S := S.nx HL.out;clear HL HK;obtain ⟨F1, HK, HL⟩ := S
    try dsimp only at HK
    go_wp2;go_returns
    have K2 := HK.out.close HL.out H0.out
    unfold tickTo at K2;rw [hjm.out, hm.out] at K2
    exact ⟨rfl, K2⟩
 ·rw [if_pos e2, if_pos e2]
  have e3 : (l2 == 0) = false := by simpa using e2
  go_enter func81, ntmps81
  go_wp2_with fail;refine A.out.mono ?_;rintro e w1 ⟨rfl, rfl⟩;go_wp2;go_returns
  exact ⟨rfl, HK.out.close HL.out H0.out⟩
end
section
open Go.Proofs.YtiocbpabbjgkhaaGreatDoor.NumD
theorem ints_bx {w w1 : World} (h : KAt w F p f k) {v : Value} {l : List Int} (hv : IntsAt w1 (New w) v l) : ∃ base cap g cs, v = .slice base l.length cap ∧ l.length ≤ maxLen ∧ (0 < l.length → base = some ⟨g, 0, none⟩ ∧ Bx w1 F g cs 3 ∧ ∀ j, j < l.length → cs[j]? = some (.int .i64 (l.getD j 0))) := by
 have hm := hv.len;obtain ⟨h1, base, cap, rfl, h3, h4, h5⟩ := hv
 by_cases hl : 0 < l.length
 ·rcases h5 with ⟨h5, _⟩ | ⟨g, cs, rfl, b, c, d, e⟩
  ·omega
  ·refine ⟨_, cap, g, cs, rfl, hm, fun _ => ⟨rfl, ⟨b, fun e2 => by have := h.ltF g e2; have e : w.heap.size ≤ g := e; omega⟩, fun j hj => ?_⟩⟩
   rw [← Array.getElem?_toList]
   refine take_get d ?_
   simp [List.getD_eq_getElem?_getD, hj]
 ·exact ⟨base, cap, 0, #[], rfl, hm, fun e => absurd e hl⟩
def kAll (g : K → Int → K) (k : K) (l : List Int) (j : Nat) : K := (l.take j).foldl g k
theorem kAll_step (g : K → Int → K) (k : K) (l : List Int) (j : Nat) (hj : j < l.length) : kAll g k l (j + 1) = g (kAll g k l j) (l.getD j 0) := by
 have hg : l[j]? = some (l.getD j 0) := by rw [List.getD_eq_getElem?_getD, List.getElem?_eq_getElem hj]; rfl
 unfold kAll;rw [List.take_add_one, hg, Option.toList_some, List.foldl_append]
 rfl
theorem kAll_zero (g : K → Int → K) (k : K) (l : List Int) : kAll g k l 0 = k := by simp [kAll]
theorem kAll_all (g : K → Int → K) (k : K) (l : List Int) : kAll g k l l.length = l.foldl g k := by simp [kAll]
def kHaltB (k : K) (cpu by' : Int) : K := { k with st := (stopBegin k.st (notF (k.active ||| oneF cpu) (oneF by'))).1 }
def kHaltE (k : K) (cpu : Int) : K :=
 let k1 := (routeOn k.rt cpu).foldl (fun k n => kLead k n cpu) k
 { k1 with st := (stopFree k1.st).1 }
def kHalt (k : K) (cpu by' : Int) : K × Bool := if stopOn k.st then (if stopReady k.st then (kHaltE k cpu, true) else (k, false)) else (kHaltB k cpu by', false)
theorem KAt.khalt (h : KAt w F p f k) (cpu by' : Int) : Calls prog 319 #[.pointer (some ⟨p, 0, none⟩), .int .i64 cpu, .int .i64 by'] w fun e w' => e = .returned (.bool (kHalt k cpu by').2) ∧ KS w w' F p f (kHalt k cpu by').1 := by
 have A := h.kson;have c10 := h.h10;have H0 := Hd h;have HK := Hd h;have HL := Hd (Lk.refl w F);clear h;unfold kHalt
 cases hon : stopOn k.st with
 | false =>
  rw [hon] at A;replace A := Hd A;replace hon := Hd hon;rw [if_neg (by decide)];unfold kHaltB;have hac := Hd HK.out.ac;have HB := Hd (Bx.new HK.out #[.int .i64 cpu] 3)
  have HT := Hd (HK.out.alloc (.cells #[.int .i64 cpu] 3))
  have B1 := Hd (with_one k.active HK.out.ac cpu (w.alloc (.cells #[.int .i64 cpu] 3)).drew w.heap.size 1 (HB.out.cell 0))
  have B2 := Hd (less_any (k.active ||| oneF cpu) (orF_lt _ HK.out.ac cpu) by' (w.alloc (.cells #[.int .i64 cpu] 3)).drew)
  have B3 := Hd ((HT.out.drewN 1).ksbegin (notF (k.active ||| oneF cpu) (oneF by')) (notF_lt _ _ (orF_lt _ HK.out.ac cpu)))
  have c3 := HK.out.hac;have d3 := HT.out.hac;have d10 := HT.out.h10
  go_enter func319, ntmps319
  go_wp2_with fail;refine A.out.mono ?_;rintro e w1 ⟨rfl, rfl⟩
  replace HL := Hd (HL.out.alloc (.cells #[.int .i64 cpu] 3))
  go_wp2_with fail
  go_region_held3 (fun w' => w'.cell? ⟨p, 10, none⟩ = some (.pointer (some ⟨f.pt 10, 0, none⟩)) ∧ w'.cell? ⟨p, 17, none⟩ = some (.int .u64 k.active))
   (first
    | go_keep
    | exact ⟨c10, c3⟩
    | exact ⟨d10, d3⟩
    | exact ⟨S.1.h10, S.1.hac⟩
    | (go_split_ands; refine ⟨?_, ?_⟩ <;> first | exact S.1.h10 | exact S.1.hac))
   (first | (go_at_call 189; refine B1.out.mono ?_; rintro e w3 ⟨rfl, rfl⟩) | (go_at_call 162; refine B2.out.mono ?_; rintro e w3 ⟨rfl, rfl⟩) | (go_at_call 352; refine B3.out.mono ?_; rintro e w3 ⟨rfl, S⟩))
  replace HL := Hd (HL.out.drewN 1);replace S := S.nx HL.out;clear HL HK;obtain ⟨F1, HK, HL⟩ := S
  try dsimp only at HK
  go_wp2;go_returns
  exact ⟨rfl, HK.out.close HL.out H0.out⟩
 | true =>
  rw [hon] at A;replace A := Hd A;replace hon := Hd hon;rw [if_pos rfl];have B := HK.out.ksready
  cases hr : stopReady k.st with
  | false =>
   rw [hr] at B;replace B := Hd B;replace hr := Hd hr;rw [if_neg (by decide)]
   go_enter func319, ntmps319
   go_wp2_with fail;refine A.out.mono ?_;rintro e w1 ⟨rfl, rfl⟩;go_wp2_with fail;refine B.out.mono ?_;rintro e w1 ⟨rfl, nd, rfl⟩;replace HL := Hd (HL.out.drewN nd);replace HK := Hd (HK.out.drewN nd);go_wp2;go_returns
   exact ⟨rfl, HK.out.close HL.out H0.out⟩
  | true =>
   rw [hr] at B;replace B := Hd B;replace hr := Hd hr;rw [if_pos rfl];unfold kHaltE;dsimp only
   obtain ⟨l, hl⟩ : ∃ l, l = routeOn k.rt cpu := ⟨_, rfl⟩
   rw [← hl];replace hl := Hd hl
   obtain ⟨n, hn⟩ : ∃ n, n = l.length := ⟨_, rfl⟩
   have e := kAll_all (fun k n => kLead k n cpu) k l
   rw [← hn] at e;rw [← e];replace e := Hd e
   go_enter func319, ntmps319
   go_wp2_with fail;refine A.out.mono ?_;rintro e w1 ⟨rfl, rfl⟩;go_wp2_with fail;refine B.out.mono ?_;rintro e w1 ⟨rfl, nd, rfl⟩;clear A B c10;replace HL := Hd (HL.out.drewN nd);replace HK := Hd (HK.out.drewN nd)
   have P := HK.out.koon cpu
   have HN := HK;have c4 := HK.out.h4;rw [← hl.out] at P;replace P := Hd P;go_wp2_with fail;refine P.out.mono ?_;rintro e w1 ⟨⟨v, rfl, hv⟩, S⟩
   obtain ⟨base, cap, g, cs, rfl, hm, hb⟩ := ints_bx HN.out hv
   clear hv P HN c4;unfold maxLen at hm;replace HL := Hd (HL.out.below S);replace HK := Hd (HK.out.below S);clear S;rw [← hn] at hb hm ⊢;replace hb := Hd hb;replace hn := Hd hn;go_wp2
   go_loopw [48, 8] (fun iv _ wr => ∃ (j : Nat) (F' : Nat → Prop), iv = .int .i64 j ∧ j ≤ n ∧ Hid (KAt wr F' p f (kAll (fun k n => kLead k n cpu) k l j)) ∧ Hid (Lk w F wr F') ∧ Hid (0 < n → Bx wr F' g cs 3)) (fun iv _ _ => n - (intOf iv).toNat)
   case atStart => exact ⟨0, F, rfl, by omega, Hd (by rw [kAll_zero]; exact HK.out), HL, Hd (fun e => (hb.out e).2.1)⟩
   case round =>
    clear HK HL;obtain ⟨j, F', rfl, hj, HK, HL, HB⟩ := hrel
    by_cases hlt : j < n
    ·obtain ⟨rfl, -, hcs⟩ := hb.out (by omega)
     have hc := (HB.out (by omega)).cell j
     rw [hcs j hlt] at hc
     have hst := kAll_step (fun k n => kLead k n cpu) k l j (by rw [← hn.out]; exact hlt)
     generalize l.getD j 0 = x at hc hst;have P := Hd (HK.out.klead x cpu);clear hcs;go_wp2_with fail;refine P.out.mono ?_;rintro e w2 ⟨rfl, S⟩;clear P;obtain ⟨F1, L1, K1⟩ := S.open;clear S
     replace HB := Hd (fun e => (HB.out e).lk L1)
     replace HL := Hd (HL.out.trans L1);replace HK := Hd K1;clear L1 K1;go_wp2;go_roundw
     case rel => exact ⟨j + 1, _, by go_num, hlt, by rw [hst]; exact HK, HL, HB⟩
     case measure => simp [intOf]; omega
    ·have : j = n := by omega
     subst this;clear HB;have P := Hd (HK.out.ksfree);have c10 := HK.out.h10;go_wp2_with fail;refine P.out.mono ?_;rintro e w1 ⟨rfl, S⟩;clear P c10;replace S := S.nx HL.out;clear HL HK;obtain ⟨F1, HK, HL⟩ := S
     try dsimp only at HK
     go_wp2;go_returns
     exact ⟨rfl, HK.out.close HL.out H0.out⟩
end
section
section
variable {P : Program} {ops : Array Oper} {Q : Exit → Act → World → Prop} {md : Region.Mode} {S : World → Prop} {late : List Nat}
def early (late : List Nat) (listed : Array Bool) : Prop := ∀ j ∈ late, listed.getD j false = false
def wpLate (P : Program) (md : Region.Mode) (ops : Array Oper) (Q : Exit → Act → World → Prop) (S : World → Prop) (late : List Nat) : Nat → Array Bool → Act → World → Prop
 | 0 => fun listed a w => Region.ready md ops listed = [] ∧ Q .normal a w
 | n + 1 => fun listed a w => (Region.ready md ops listed = [] → Q .normal a w) ∧ ∀ i, i ∈ Region.ready md ops listed →
  wpOp P ops Q i (fun b v => (early late (listed.setIfInBounds i true) → S v) ∧ wpLate P md ops Q S late n (listed.setIfInBounds i true) b v) a w
theorem wpLate.any : ∀ (n : Nat) (listed : Array Bool) (a : Act) (w : World), wpLate P md ops Q S late n listed a w → wpAny P md ops Q n listed a w
 | 0, _, _, _, h => h
 | n + 1, _, _, _, h => ⟨h.1, fun i hi => wpOp_mono (fun _ _ g => wpLate.any n _ _ _ g.2) (h.2 i hi)⟩
theorem early.more {listed : Array Bool} {j : Nat} (h : early late listed) (hj : j ∉ late) : early late (listed.setIfInBounds j true) := fun x hx => by
 have e : j ≠ x := fun e => hj (by rw [e]; exact hx)
 rw [getD_set_ne false e]
 exact h x hx
theorem ready_off {listed : Array Bool} {i : Nat} (h : i ∈ Region.ready md ops listed) : listed.getD i false = false := by
 have h0 := (mem_ready.1 h).1
 rcases Nat.lt_or_ge i listed.size with e | e
 ·simpa [e] using h0
 ·simp [Array.getElem?_eq_none e]
theorem wpLate.take {T : World → Prop} {i : Nat} {oi : Oper} {v : Value} (hi : ops[i]? = some oi) (hs : Region.noSelect ops = true) (hil : i ∉ late) (hT : (∀ w, T w) ∨ ((∀ w, S w → T w) ∧ ∀ j, j ∈ late → ∀ oj, ops[j]? = some oj → ∃ e ∈ oj.after, Region.binds md e = true ∧ e.on = i))
  (hQ : ∀ c a w, Q (.panic c) (a.put oi.dst v) w → Q (.panic c) a w) : ∀ (n : Nat) (listed : Array Bool) (a : Act) (w : World), Region.free md ops listed i = true → i ∈ Region.ready md ops listed → (∀ w, T w) ∨ early late listed → YieldsIf P ops T oi v a → T w → (early late (listed.setIfInBounds i true) → S w) →
  wpLate P md ops Q S late n (listed.setIfInBounds i true) (a.put oi.dst v) w → wpLate P md ops Q S late (n + 1) listed a w := by
 suffices H : ∀ (n : Nat) (listed : Array Bool) (a : Act) (w : World), (∀ j oj, ops[j]? = some oj → j ≠ i → listed.getD j true = false → (∀ e ∈ oj.after, Region.binds md e = true → e.on ≠ i) → oi.apart ops oj = true) →
   i ∈ Region.ready md ops listed → (∀ w, T w) ∨ early late listed → YieldsIf P ops T oi v a → T w → (early late (listed.setIfInBounds i true) → S w) → wpLate P md ops Q S late n (listed.setIfInBounds i true) (a.put oi.dst v) w → wpLate P md ops Q S late (n + 1) listed a w from
  fun n listed a w hf => H n listed a w (Region.free_spec hi hf)
 have sel := Region.noSelect_spec hs
 intro n
 induction n with
 | zero =>
  intro listed a w _ hr he hy hTw hS h
  refine ⟨fun e => (by rw [e] at hr; cases hr), fun j hj => ?_⟩
  by_cases e : j = i
  ·subst e
   exact hy.wpOp hi hTw ⟨hS, h⟩
  ·have := ready_mono hj e
   rw [h.1] at this
   cases this
 | succ n ih =>
  intro listed a w hf hr he hy hTw hS h
  refine ⟨fun e => (by rw [e] at hr; cases hr), fun j hj => ?_⟩
  by_cases e : j = i
  ·subst e
   exact hy.wpOp hi hTw ⟨hS, h⟩
  ·obtain ⟨hju, oj, hoj, hall⟩ := mem_ready.1 hj
   have hno : ∀ x ∈ oj.after, Region.binds md x = true → x.on ≠ i := fun x hx hb ex => by
    have h1 := hall x hx hb
    rw [ex] at h1
    have h0 := ready_off hr
    rcases Nat.lt_or_ge i listed.size with e1 | e1
    ·simp [e1] at h0 h1
     rw [h0] at h1
     cases h1
    ·simp [Array.getElem?_eq_none e1] at h1
   have h1 := h.2 j (ready_mono hj e)
   have h2 := wpOp_putIf hoj (hf j oj hoj e hju hno) (fun cs b => sel i oi cs b hi) (fun cs b => sel j oj cs b hoj) hQ hy h1
   have hf' : ∀ k ok, ops[k]? = some ok → k ≠ i → (listed.setIfInBounds j true).getD k true = false → (∀ e ∈ ok.after, Region.binds md e = true → e.on ≠ i) → oi.apart ops ok = true := fun k ok hk hki hu hn => by
    refine hf k ok hk hki ?_ hn
    by_cases ek : j = k
    ·subst ek; exact hju
    ·rw [getD_set_ne true ek] at hu; exact hu
   refine wpOp_mono (fun b v' g => ?_) h2
   have hS' : early late ((listed.setIfInBounds j true).setIfInBounds i true) → S v' := fun hE => g.2.1 (by rw [Array.setIfInBounds_comm _ _ (Ne.symm e)]; exact hE)
   have hg := g.2.2;rw [Array.setIfInBounds_comm _ _ (Ne.symm e)] at hg
   have hrest : (∀ w, T w) ∨ (early late (listed.setIfInBounds j true) ∧ T v') := by
    rcases hT with hT | ⟨hST, hl⟩
    ·exact .inl hT
    ·rcases he with he | he
     ·exact .inl he
     ·have hjl : j ∉ late := fun ej => by
       obtain ⟨x, hx, hb, ex⟩ := hl j ej oj hoj
       exact hno x hx hb ex
      exact .inr ⟨he.more hjl, hST _ (hS' ((he.more hjl).more hil))⟩
   exact ⟨fun hE => hS' (hE.more hil), ih (listed.setIfInBounds j true) b v' hf' (ready_mono hr (Ne.symm e)) (hrest.imp id And.left) g.1 (hrest.elim (fun h => h v') And.right) hS' hg⟩
theorem wpLate.cons {listed : Array Bool} {a : Act} {n : Nat} {rs : List Nat} (hr : Region.ready md ops listed = rs) (hne : rs ≠ [])
  (h : ∀ i, i ∈ rs → wpOp P ops Q i (fun b v => (early late (listed.setIfInBounds i true) → S v) ∧ wpLate P md ops Q S late n (listed.setIfInBounds i true) b v) a w) : wpLate P md ops Q S late (n + 1) listed a w :=
 ⟨fun e => absurd (hr ▸ e) hne, fun i hi => h i (hr ▸ hi)⟩
theorem late_step {listed : Array Bool} {a : Act} {n i : Nat} {o : Oper} (ho : ops[i]? = some o)
  (h : ∀ K' : Act → World → Prop, Shut (∀ b v, (early late (listed.setIfInBounds i true) → S v) → wpLate P md ops Q S late n (listed.setIfInBounds i true) b v → K' b v) → if Region.wanted o (yielded ops a.tmps) = true then Oper.wp P o a w K' Q else K' (a.put o.dst undef) w) :
  wpOp P ops Q i (fun b v => (early late (listed.setIfInBounds i true) → S v) ∧ wpLate P md ops Q S late n (listed.setIfInBounds i true) b v) a w :=
 wpOp_step ho (fun K' hK => h K' (fun b v hS hW => hK b v ⟨hS, hW⟩))
theorem wpLate.take1 {n : Nat} {listed : Array Bool} {a : Act} {i : Nat} {oi : Oper} {v : Value} (hi : ops[i]? = some oi) (hs : Region.noSelect ops = true) (hl : late.all (fun j => match ops[j]? with | none => true | some o => o.after.any fun e => Region.binds md e && e.on == i) = true) (hil : late.contains i = false)
  (hf : Region.free md ops listed i = true) (hr : (Region.ready md ops listed).contains i = true) (he : late.all (fun j => !listed.getD j false) = true) (hQ : ∀ c a w, Q (.panic c) (a.put oi.dst v) w → Q (.panic c) a w) (hy : YieldsIf P ops S oi v a) (hS : S w)
  (h : wpLate P md ops Q S late n (listed.setIfInBounds i true) (a.put oi.dst v) w) : wpLate P md ops Q S late (n + 1) listed a w := by
 refine wpLate.take (T := S) hi hs (fun e => ?_) (.inr ⟨fun _ h => h, fun j hj oj hoj => ?_⟩) hQ n listed a w hf (by simpa using hr) (.inr fun j hj => ?_) hy hS (fun _ => hS) h
 ·rw [List.contains_iff_mem.2 e] at hil
  cases hil
 ·have h1 := List.all_eq_true.1 hl j hj
  rw [hoj] at h1
  obtain ⟨e, he1, he2⟩ := Array.any_eq_true'.1 h1
  rw [Bool.and_eq_true, beq_iff_eq] at he2
  exact ⟨e, he1, he2⟩
 ·simpa using List.all_eq_true.1 he j hj
theorem wpLate.take0 {n : Nat} {listed : Array Bool} {a : Act} {i : Nat} {oi : Oper} {v : Value} (hi : ops[i]? = some oi) (hs : Region.noSelect ops = true) (hil : late.contains i = false)
  (hf : Region.free md ops listed i = true) (hr : (Region.ready md ops listed).contains i = true) (hQ : ∀ c a w, Q (.panic c) (a.put oi.dst v) w → Q (.panic c) a w) (hy : YieldsIf P ops (fun _ => True) oi v a) (hS : early late (listed.setIfInBounds i true) → S w)
  (h : wpLate P md ops Q S late n (listed.setIfInBounds i true) (a.put oi.dst v) w) : wpLate P md ops Q S late (n + 1) listed a w := by
 refine wpLate.take (T := fun _ => True) hi hs (fun e => ?_) (.inl fun _ => trivial) hQ n listed a w hf (by simpa using hr) (.inl fun _ => trivial) hy trivial hS h
 rw [List.contains_iff_mem.2 e] at hil
 cases hil
theorem wpLate.one {n i : Nat} {o : Oper} {listed : Array Bool} {a : Act} (hr : Region.ready md ops listed = [i]) (ho : ops[i]? = some o)
  (h : ∀ K' : Act → World → Prop, Shut (∀ b v, (early late (listed.setIfInBounds i true) → S v) → wpLate P md ops Q S late n (listed.setIfInBounds i true) b v → K' b v) → if Region.wanted o (yielded ops a.tmps) = true then Oper.wp P o a w K' Q else K' (a.put o.dst undef) w) : wpLate P md ops Q S late (n + 1) listed a w :=
 .cons hr (by simp) fun x hx => by rw [List.mem_singleton.1 hx]; exact late_step ho h
theorem wpLate.two {n i j : Nat} {o o' : Oper} {listed : Array Bool} {a : Act} (hr : Region.ready md ops listed = [i, j]) (ho : ops[i]? = some o) (ho' : ops[j]? = some o')
  (h : ∀ K' : Act → World → Prop, Shut (∀ b v, (early late (listed.setIfInBounds i true) → S v) → wpLate P md ops Q S late n (listed.setIfInBounds i true) b v → K' b v) → if Region.wanted o (yielded ops a.tmps) = true then Oper.wp P o a w K' Q else K' (a.put o.dst undef) w)
  (h' : ∀ K' : Act → World → Prop, Shut (∀ b v, (early late (listed.setIfInBounds j true) → S v) → wpLate P md ops Q S late n (listed.setIfInBounds j true) b v → K' b v) → if Region.wanted o' (yielded ops a.tmps) = true then Oper.wp P o' a w K' Q else K' (a.put o'.dst undef) w) : wpLate P md ops Q S late (n + 1) listed a w :=
 .cons hr (by simp) fun x hx => by
  rcases List.mem_cons.1 hx with rfl | hx
  ·exact late_step ho h
  ·rw [List.mem_singleton.1 hx]; exact late_step ho' h'
theorem wpLate.done {listed : Array Bool} {a : Act} (hr : Region.ready md ops listed = []) (h : Q .normal a w) : ∀ n, wpLate P md ops Q S late n listed a w
 | 0 => ⟨hr, h⟩
 | _ + 1 => ⟨fun _ => h, fun i hi => by rw [hr] at hi; cases hi⟩
theorem wp_region_late {id : Nat} {a : Act} (hm : P.follows .mixedOrders = true) (h : wpLate P .any ops Q S late ops.size (Array.replicate ops.size false) a w.drew) : (Code.region id ops true).wp P Q a w :=
 wp_region_any hm (h.any _ _ _ _)
end
end
end Go.Proofs.YtiocbpabbjgkhaaGreatDoor
