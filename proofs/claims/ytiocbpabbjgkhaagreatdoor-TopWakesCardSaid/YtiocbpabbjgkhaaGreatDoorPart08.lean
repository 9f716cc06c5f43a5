/- Part 8 of the proof: contracts and plain laws, each under the conditions that it names. -/
import Derived.Test.YtiocbpabbjgkhaaGreatDoorPart07
import Derived.Deep.Upon
set_option maxRecDepth 100000
set_option maxHeartbeats 20000000
set_option linter.unusedVariables false
set_option linter.unusedSimpArgs false
namespace Go.Proofs.YtiocbpabbjgkhaaGreatDoor
open Go.RowKit Tryz
variable {w w' : World} {F : Nat → Prop} {p : Nat}
section
open Go.Shelf
attribute [local go_sem] Oper.semAt_some
theorem run_app0 {P : Program} {t E ty : TypeId} {i : TypeInfo} (ht : P.underlying t = some (.slice E)) (hi : P.info? E = some i) (w : World) {base base2 : Option Addr} {n cap cap2 : Nat} (hle : n ≤ cap) :
  (Builtin.append_ #[t, t] ty #[.slice base n cap, .slice base2 0 cap2]).run P w = .ok (.slice base n cap) w := by
 refine run_append_nothing w t t ty E i ht hi base n cap hle _ ⟨.inl ⟨E, ht⟩, fun w' => rfl, ?_, ?_, by simp, by simp⟩
 ·cases base2 <;> simp [Builtin.firstCells, loadCells, loadCellsFrom]
 ·cases base2 <;> simp [Builtin.firstCells, loadCells, loadCellsFrom]
theorem run_appI {F F2 : Nat → Prop} {v v2 : Value} {l l2 : List Int} (h : IntsAt w F v l) (h2 : IntsAt w F2 v2 l2) (hl : l.length + l2.length ≤ 1099511627776) (ty : TypeId) :
  ∃ v' w', (Builtin.append_ #[65, 65] ty #[v, v2]).run prog w = .ok v' w' ∧ IntsAt w' (Plus w w' F) v' (l ++ l2) ∧ Ch F w w' := by
 cases l2 with
 | nil =>
  obtain ⟨base, cap, rfl⟩ := RowAt.form h
  obtain ⟨base2, cap2, rfl⟩ := RowAt.form h2
  obtain ⟨i, h3, h4, h5, h6⟩ := info_parts info3
  have hle : l.length ≤ cap := by obtain ⟨_, b, c, e, h, _⟩ := h; cases e; exact h
  refine ⟨_, w, run_app0 underlying65 h3 w hle, ?_, Ch.refl _ _⟩
  rw [List.append_nil, Plus.self]
  exact h
 | cons x t =>
  obtain ⟨g, cap, rfl, hc1, hc2, hF, hlt, hcell, hfr⟩ := RowAt.open h2 (by simp)
  obtain ⟨i, h3, h4, h5, h6⟩ := info_parts info3
  obtain ⟨v', w', hr, h7, h8⟩ := run_app (P := prog) (ty := ty) underlying65 h3 h4 h5 h6 rfl (by omega) h (a := ⟨g, 0, none⟩) (m := (x :: t).length) (c := cap) (news := (x :: t).map (Value.int .i64)) (by simp) (fun j u hj => by
   have : (⟨g, 0, none⟩ : Addr).add j = ⟨g, j, none⟩ := by unfold Addr.add; split <;> simp_all
   rw [this]; exact hcell j u hj) (by simp [Value.oneCell']) (by simp) (by unfold maxLen; omega) (by omega)
  refine ⟨v', w', hr, ?_, h8⟩
  unfold IntsAt;rw [List.length_append, List.map_append]
  exact h7
theorem oper_ints {G : Fence} {n : Nat} {o : Oper} {a : Act} {K : Act → World → Prop} {Q : Exit → Act → World → Prop}
  (s x : Operand) (hop : o.op = Op.call { callee := Callee.builtin Builtin.append, args := #[s, x], argTypes := #[65, 65] }) {F F2 : Nat → Prop} {v v2 : Value} {l l2 : List Int} (hs : a.eval s = v) (hx : a.eval x = v2) (h : IntsAt w F v l) (h2 : IntsAt w F2 v2 l2) (hl : l.length + l2.length ≤ 1099511627776)
  (hK : ∀ v' w', IntsAt w' (Plus w w' F) v' (l ++ l2) → Ch F w w' → K (a.put o.dst v') w') : o.wpIn G n prog a w K Q := by
 obtain ⟨v', w', hrun, r1, r2⟩ := run_appI h h2 hl o.type
 unfold Oper.wpIn
 refine ⟨?_, ?_⟩
 ·simp [Oper.about, hop, resolve, Target.leads, Sem.run_pure]
 ·rw [Oper.semAt_plain G _ _ (by rw [hop]; intro c hc'; cases hc')]
  simp [execOp, hop, resolve, invoke, builtin, hs, hx, hrun, Result.andThen]
  exact hK v' w' r1 r2
theorem IntsAt.cells {W : World} {v : Value} {l : List Int} (h : IntsAt W F v l) : IntsAt W (fun b => F b ∧ ∃ cs t, Blk W b cs t) v l := by
 obtain ⟨h1, base, cap, h2, h3, h4, h5⟩ := h
 refine ⟨h1, base, cap, h2, h3, h4, h5.imp id ?_⟩
 rintro ⟨g, cs, a, b, c, d, e⟩
 exact ⟨g, cs, a, b, c, d, e, cs, _, b⟩
theorem IntsAt.own {W W' : World} {v : Value} {l : List Int} {row : Option Nat} (h : IntsAt W F v l) (hg : W.grownBy W' row) (hr : ∀ r, row = some r → ∃ o : Obj, W.heap[r]? = some o ∧ o.isCells = false) : IntsAt W' F v l := by
 obtain ⟨h1, base, cap, h2, h3, h4, h5⟩ := h
 refine ⟨h1, base, cap, h2, h3, h4, h5.imp id ?_⟩
 rintro ⟨g, cs, a, b, c, d, e⟩
 refine ⟨g, cs, a, ?_, c, d, e⟩
 refine (hg.block g b.lt (fun e => ?_)).trans b
 obtain ⟨o, ho, hc⟩ := hr g e.symm
 unfold Blk at b;rw [b] at ho
 cases ho
 cases hc
def listOf (lv : List (List Int)) (pre : List (Fin 8)) : List Int := pre.flatMap (fun i => lv.getD i.1 [])
theorem listOf_snoc (lv : List (List Int)) (pre : List (Fin 8)) (x : Fin 8) : listOf lv (pre ++ [x]) = listOf lv pre ++ lv.getD x.1 [] := by simp [listOf, List.flatMap_append]
def prioList (q : Prio) : List Int := listOf q.lv (downL 8)
theorem listOf_len (lv : List (List Int)) (h : ∀ i, (lv.getD i []).length ≤ 1000) (pre : List (Fin 8)) : (listOf lv pre).length ≤ pre.length * 1000 := by
 induction pre with
 | nil => simp [listOf]
 | cons x t ih =>
  have := h x.1
  simp only [listOf, List.flatMap_cons, List.length_append, List.length_cons] at ih ⊢
  omega
def Mine (w : World) : Nat → Prop := fun b => w.heap.size ≤ b ∧ b ≠ w.heap.size ∧ b ≠ w.heap.size + 1
theorem plist_in (F : Fence) (n : Nat) (hfn : ∀ f, F.fn f) (hro : F.round = none) (hw : ∀ m f args w R, Calls prog f args w R → CallsIn F m prog f args w R) (hn : 3 ≤ n) (w : World) {G : Nat → Prop} {p mb : Nat} {ptrs c : Nat → Nat} {q : Prio} (h : PrioAtQ w G p ptrs mb c q) (hlen : ∀ i, (q.lv.getD i []).length ≤ 1000) :
  CallsIn F n prog 305 #[.pointer (some ⟨p, 0, none⟩)] w fun e w' => (∃ v, e = .returned v ∧ IntsAt w' (New w) v (prioList q)) ∧ Below w.heap.size w w' := by
 have h1 : 1 ≤ n := by omega
 refine callsIn_of_wp_marks func305 rfl (hfn 305) ?_ hro
 simp only [ntmps305, List.size_toArray, List.length_cons, List.length_nil, Nat.reduceAdd, Nat.reduceSub, Array.replicate_succ, Array.replicate_zero, List.push_toArray, List.append_toArray, List.nil_append, List.cons_append]
 gi_wp2_with (gi_at_call 338; refine (down_any F (n - 1) (hfn 338) hro p _).mono ?_; rintro e w' ⟨rfl, rfl⟩)
 obtain ⟨W0, hW0⟩ : ∃ W0, (w.alloc (.cells #[.slice none 0 0] 65)).alloc (.cells #[.pointer (some ⟨p, 0, none⟩)] 178) = W0 := ⟨_, rfl⟩
 have hs0 : W0.heap.size = w.heap.size + 2 := by rw [← hW0]; simp
 have b0 : Blk W0 w.heap.size #[.slice none 0 0] 65 := by rw [← hW0]; exact (Blk.new w _ _).alloc _
 have b2 : Blk W0 (w.heap.size + 1) #[.pointer (some ⟨p, 0, none⟩)] 178 := by rw [← hW0]; exact Blk.at (w := w.alloc (.cells #[.slice none 0 0] 65)) _ _ (by simp)
 have hB0 : Below w.heap.size w W0 := by rw [← hW0]; exact ((Below.refl _ w).alloc (Nat.le_refl _) _).alloc (by simp) _
 rw [hW0];have hlt := h.head.lt
 refine wpIn_rangeFunc_ownF hro h1 (gf := 356) (lb := #[.pointer (some ⟨w.heap.size + 1, 0, none⟩)]) rfl (hfn 356) (enters_of func356 (by kernel_rfl) rfl)
  (down_stops F (n - 1) (hfn 356) hro (by omega) (w.heap.size + 1) w.heap.size p ptrs W0 b2 hlt (fun i hi => keepcell hB0 (h.level i hi))) kpB_t (kpB_b (by omega) (by omega)) (Below.refl _ _) (fun _ => rfl)
  (fun pre W => (∃ v, W.cell? ⟨w.heap.size, 0, none⟩ = some v ∧ W.frozen? ⟨w.heap.size, 0, none⟩ = false ∧ IntsAt W (Mine w) v (listOf q.lv pre)) ∧ Below w.heap.size w W ∧ w.heap.size + 2 ≤ W.heap.size)
  (fun _ _ _ => False)
  (OwnFrom.and (Own.from (fun s A B row hs hg hr => by obtain ⟨v, h1, h2, h3⟩ := hs; exact ⟨v, cell_kept h1 hg hr, (frozen_kept h1 hg hr).trans h2, h3.own hg hr⟩) _) (OwnFrom.and (ownFrom_below (Nat.le_refl _) (by omega)) (fun s A B row hs hg hr => Nat.le_trans hs hg.size)))
  (fun _ _ _ _ _ hs _ _ => hs)
  ⟨⟨_, b0.cell 0, b0.frozen 0, IntsAt.nil _ _⟩, hB0, by omega⟩
  (fun x => { tmps := #[.pointer (some ⟨p, 0, none⟩), undef, .slice none 0 0, .pointer (some ⟨w.heap.size, 0, none⟩), .pointer (some ⟨ptrs x.1, 0, none⟩), .pointer (some ⟨p, 0, none⟩), .bool false, .pointer (some ⟨p, 0, none⟩), .func (.func 356) #[] #[.pointer (some ⟨w.heap.size + 1, 0, none⟩)], .pointer (some ⟨ptrs x.1, 0, none⟩), undef, undef, undef, undef, undef], defers := [] }) ?assign ?body ?done ?stop
 case assign =>
  intro l x W K hK
  gi_wp2
  exact hK
 case body =>
  rintro l pre x W ⟨⟨v, hc0, hf0, hv⟩, hB, hsz⟩ hpre
  have hd : 1 ≤ n - 1 - 1 := by omega
  have hmx : prog.follows .mixedOrders = true := by kernel_rfl
  have A := qlist_any W.drew _ _ _ _ ((h.lv x.1 x.2).ch ((Ch.off hB).drew) (fun _ _ h => h))
  have hl1 := listOf_len q.lv hlen pre
  have hl2 := hlen x.1
  gi_wp2
  refine wpIn_region_any hmx ?_
  change wpAnyIn _ _ _ _ _ _ _ _ _ (World.drew _)
  have hb3 : ∀ w1, Below W.drew.heap.size W.drew w1 → Below W.heap.size W w1 := fun w1 hb => (Below.refl W.heap.size W).drew.trans hb
  replace hv := hv.cells
  have hWs : w.heap.size + 2 ≤ W.heap.size := hsz
  obtain ⟨L, hL⟩ : ∃ L, L = listOf q.lv pre ++ q.lv.getD x.1 [] := ⟨_, rfl⟩
  have hL2 : L = listOf q.lv (pre ++ [x]) := by rw [hL, listOf_snoc]
  have hfin : ∀ w1 v' w', Below W.heap.size W w1 → IntsAt w' (Plus w1 w' (fun b => Mine w b ∧ ∃ cs t, Blk W b cs t)) v' L → Ch (fun b => Mine w b ∧ ∃ cs t, Blk W b cs t) w1 w' → w'.cell? ⟨w.heap.size, 0, none⟩ = some v ∧ w'.frozen? ⟨w.heap.size, 0, none⟩ = false ∧ (∀ u, KeepsOthers W (w'.setCell ⟨w.heap.size, 0, none⟩ u)) ∧ (∀ u, KpB w.heap.size (w.heap.size + 1) W (w'.setCell ⟨w.heap.size, 0, none⟩ u)) ∧ ∀ u, IntsAt (w'.setCell ⟨w.heap.size, 0, none⟩ u) (Mine w) v' (listOf q.lv (pre ++ [x])) ∧ Below w.heap.size w (w'.setCell ⟨w.heap.size, 0, none⟩ u) ∧ w.heap.size + 2 ≤ (w'.setCell ⟨w.heap.size, 0, none⟩ u).heap.size := by
   intro w1 v' w' hb h7 h8
   have hs1 := hb.size;have hs2 := h8.size
   have hkeep : ∀ k, k < W.heap.size → ¬ (Mine w k ∧ ∃ cs t, Blk W k cs t) → w'.heap[k]? = W.heap[k]? := fun k hk hn => (h8.block k (by omega) hn).trans (hb.block k hk)
   have hbw : Below w.heap.size W w' := ⟨h8.os.trans hb.os, h8.tape.trans hb.tape, h8.output.trans hb.output, by omega, fun k hk => hkeep k (by omega) (fun e => by have := e.1.1; omega)⟩
   refine ⟨keepch h8 (keepcell hb hc0) (fun e => e.1.2.1 rfl), ?_, ?_, ?_, ?_⟩
   ·rw [h8.frozen (by omega) (fun e => e.1.2.1 rfl), (Ch.off hb).frozen (by omega) (fun h => h)]; exact hf0
   ·intro u
    refine KeepsOthers.trans ⟨by omega, fun k o hk ho => ?_⟩ (KeepsOthers.setCell _ _ _)
    refine (hkeep k (Array.getElem?_eq_some_iff.1 hk).1 (fun e => ?_)).trans hk
    obtain ⟨_, cs, t, hbk⟩ := e;unfold Blk at hbk;rw [hbk] at hk
    cases hk
    cases ho
   ·intro u
    refine ⟨hbw.setCell (p := ⟨w.heap.size, 0, none⟩) (Nat.le_refl _) u, ?_⟩
    rw [Below.heap_setCell _ _ _ _ (by simp)]
    exact hkeep _ (by omega) (fun e => e.1.2.2 rfl)
   ·intro u
    rw [← hL2]
    refine ⟨(h7.mono (G := Mine w) (fun b hb' => hb'.elim (fun e => e.1) (fun e => ⟨by omega, by omega, by omega⟩))).ch ((Ch.refl (fun b => b = w.heap.size) w').put 0 u) (fun b hb' e => hb'.2.1 e), hB.trans (hbw.setCell (p := ⟨w.heap.size, 0, none⟩) (Nat.le_refl _) u), by simp; omega⟩
  replace hL := Hd hL;replace hL2 := Hd hL2
  refine wpAnyIn_ready (rs := [0, 1]) (by kernel_rfl) (by simp) ?_
  refine AllReadyIn.cons rfl (fun K hK => ?_) (AllReadyIn.cons rfl (fun K hK => ?_) AllReadyIn.nil)
  ·go_simp
   refine hK _ _ ?_; clear hK K
   refine wpAnyIn_ready (rs := [1]) (by kernel_rfl) (by simp) ?_
   refine AllReadyIn.cons rfl (fun K hK => ?_) AllReadyIn.nil
   go_simp
   refine hK _ _ ?_; clear hK K
   refine wpAnyIn_ready (rs := [2]) (by kernel_rfl) (by simp) ?_
   refine AllReadyIn.cons rfl (fun K hK => ?_) AllReadyIn.nil
   go_simp
   refine (CallsIn.inRound l (hw _ _ _ _ _ A)).mono ?_
   rintro e w1 ⟨⟨v2, rfl, hv2⟩, hb2⟩;dsimp only
   replace hb2 := hb3 _ hb2
   refine hK _ _ ?_; clear hK K
   refine wpAnyIn_ready (rs := [3]) (by kernel_rfl) (by simp) ?_
   refine AllReadyIn.cons rfl (fun K hK => ?_) AllReadyIn.nil
   refine oper_ints (Operand.tmp 10) (Operand.tmp 12) rfl rfl rfl (hv.ch (Ch.off hb2) (fun _ _ h => h)) hv2 (by have := hpre; omega) ?_
   intro v' w' h7 h8
   rw [← hL.out] at h7
   obtain ⟨base, cap, rfl⟩ := RowAt.form h7
   refine hK _ _ ?_; clear hK K
   obtain ⟨kc, kf, hk1, hk2, hk3⟩ := hfin w1 _ w' hb2 h7 h8
   refine wpAnyIn_ready (rs := [4]) (by kernel_rfl) (by simp) ?_
   refine AllReadyIn.cons rfl (fun K hK => ?_) AllReadyIn.nil
   go_simp
   refine hK _ _ ?_; clear hK K
   refine wpAnyIn_done (by kernel_rfl) ?_ _
   exact ⟨hk1 _, hk2 _, ⟨_, World.cell?_setCell_same' _ _ _ (by rw [kc]; rfl), by rw [World.frozen?_setCell]; exact kf, (hk3 _).1⟩, (hk3 _).2.1, (hk3 _).2.2⟩
  ·go_simp
   refine hK _ _ ?_; clear hK K
   refine wpAnyIn_ready (rs := [0, 2]) (by kernel_rfl) (by simp) ?_
   refine AllReadyIn.cons rfl (fun K hK => ?_) (AllReadyIn.cons rfl (fun K hK => ?_) AllReadyIn.nil)
   ·go_simp
    refine hK _ _ ?_; clear hK K
    refine wpAnyIn_ready (rs := [2]) (by kernel_rfl) (by simp) ?_
    refine AllReadyIn.cons rfl (fun K hK => ?_) AllReadyIn.nil
    go_simp
    refine (CallsIn.inRound l (hw _ _ _ _ _ A)).mono ?_
    rintro e w1 ⟨⟨v2, rfl, hv2⟩, hb2⟩;dsimp only
    replace hb2 := hb3 _ hb2
    refine hK _ _ ?_; clear hK K
    refine wpAnyIn_ready (rs := [3]) (by kernel_rfl) (by simp) ?_
    refine AllReadyIn.cons rfl (fun K hK => ?_) AllReadyIn.nil
    refine oper_ints (Operand.tmp 10) (Operand.tmp 12) rfl rfl rfl (hv.ch (Ch.off hb2) (fun _ _ h => h)) hv2 (by have := hpre; omega) ?_
    intro v' w' h7 h8
    rw [← hL.out] at h7
    obtain ⟨base, cap, rfl⟩ := RowAt.form h7
    refine hK _ _ ?_; clear hK K
    obtain ⟨kc, kf, hk1, hk2, hk3⟩ := hfin w1 _ w' hb2 h7 h8
    refine wpAnyIn_ready (rs := [4]) (by kernel_rfl) (by simp) ?_
    refine AllReadyIn.cons rfl (fun K hK => ?_) AllReadyIn.nil
    go_simp
    refine hK _ _ ?_; clear hK K
    refine wpAnyIn_done (by kernel_rfl) ?_ _
    exact ⟨hk1 _, hk2 _, ⟨_, World.cell?_setCell_same' _ _ _ (by rw [kc]; rfl), by rw [World.frozen?_setCell]; exact kf, (hk3 _).1⟩, (hk3 _).2.1, (hk3 _).2.2⟩
   ·go_simp
    refine (CallsIn.inRound l (hw _ _ _ _ _ A)).mono ?_
    rintro e w1 ⟨⟨v2, rfl, hv2⟩, hb2⟩;dsimp only
    replace hb2 := hb3 _ hb2
    refine hK _ _ ?_; clear hK K
    have kl : w1.cell? ⟨w.heap.size, 0, none⟩ = some v := keepcell hb2 hc0
    refine wpAnyIn_ready (rs := [0]) (by kernel_rfl) (by simp) ?_
    refine AllReadyIn.cons rfl (fun K hK => ?_) AllReadyIn.nil
    go_simp
    refine hK _ _ ?_; clear hK K
    refine wpAnyIn_ready (rs := [3]) (by kernel_rfl) (by simp) ?_
    refine AllReadyIn.cons rfl (fun K hK => ?_) AllReadyIn.nil
    refine oper_ints (Operand.tmp 10) (Operand.tmp 12) rfl rfl rfl (hv.ch (Ch.off hb2) (fun _ _ h => h)) hv2 (by have := hpre; omega) ?_
    intro v' w' h7 h8
    rw [← hL.out] at h7
    obtain ⟨base, cap, rfl⟩ := RowAt.form h7
    refine hK _ _ ?_; clear hK K
    obtain ⟨kc, kf, hk1, hk2, hk3⟩ := hfin w1 _ w' hb2 h7 h8
    refine wpAnyIn_ready (rs := [4]) (by kernel_rfl) (by simp) ?_
    refine AllReadyIn.cons rfl (fun K hK => ?_) AllReadyIn.nil
    go_simp
    refine hK _ _ ?_; clear hK K
    refine wpAnyIn_done (by kernel_rfl) ?_ _
    exact ⟨hk1 _, hk2 _, ⟨_, World.cell?_setCell_same' _ _ _ (by rw [kc]; rfl), by rw [World.frozen?_setCell]; exact kf, (hk3 _).1⟩, (hk3 _).2.1, (hk3 _).2.2⟩
 case done =>
  rintro D ys W hD rfl ⟨⟨v, hc0, hf0, hv⟩, hB, hsz⟩ hK
  gi_wp2
  refine ⟨by simp, .inl ⟨_, _, rfl, run_takeDeferred hK, ?_⟩⟩
  refine ⟨_, results_tmp rfl _ _ _, ⟨v, rfl, (hv.own (grownBy_putObj' W D (.deferred none)) (fun r e => by cases e; exact ⟨_, hK, rfl⟩)).mono (fun b hb => hb.1)⟩, hB.trans (belowK_b (w := w) (Nat.le_refl _) W D _ _ (by omega) hK rfl rfl)⟩
 case stop =>
  rintro D c pre W hD _ h _
  exact h.elim
theorem plist_any (w : World) {q : Prio} (h : PrioAt w F p q) : Calls prog 305 #[.pointer (some ⟨p, 0, none⟩)] w fun e w' => (∃ v, e = .returned v ∧ IntsAt w' (New w) v (prioList q)) ∧ Below w.heap.size w w' := by
 obtain ⟨ptrs, mb, c, h⟩ := h
 refine (callsIn_wide (n := 3)).1 (plist_in Fence.wide 3 (fun _ => trivial) rfl (fun m f args w R h => callsIn_wide.2 h) (Nat.le_refl _) w h fun i => ?_)
 by_cases hi : i < 8
 ·obtain ⟨r, ring, first, many, hr, hl⟩ := h.lv i hi
  rw [← hl, ringL_len]
  have := hr.n
  omega
 ·rw [List.getD_eq_getElem?_getD, List.getElem?_eq_none (by rw [h.len]; omega)]
  simp
end
structure Runq where
 qs : List Prio
 wh : List (Int × Int)
def noPrio : Prio := ⟨[], []⟩
structure RunqAtQ (w : World) (F : Nat → Prop) (p wb : Nat) (rv : Value) (ptrs c : Nat → Nat) (r : Runq) : Prop where
 head : Blk w p #[rv, .map (some wb)] 181
 row : RowAt w (Col F c 1) 178 1 rv r.qs.length (ptrL ptrs r.qs.length)
 map : IMapAt w wb r.wh
 fp : Col F c 0 p
 fm : Col F c 2 wb
 lt : ∀ b, F b → b < w.heap.size
 qs : ∀ i, i < r.qs.length → PrioAt w (Col F c (3 + i)) (ptrs i) (r.qs.getD i noPrio)
 n1 : 1 ≤ r.qs.length
 n64 : r.qs.length ≤ 64
 ok : ∀ x ∈ r.wh, 0 ≤ x.2 ∧ x.2 < r.qs.length
def RunqAt (w : World) (F : Nat → Prop) (p : Nat) (r : Runq) : Prop := ∃ wb rv ptrs c, RunqAtQ w F p wb rv ptrs c r
theorem RunqAtQ.ch {F G : Nat → Prop} {p wb : Nat} {rv : Value} {ptrs c : Nat → Nat} {r : Runq} (h : RunqAtQ w F p wb rv ptrs c r) (hc : Ch G w w') (hd : ∀ b, F b → ¬ G b) : RunqAtQ w' F p wb rv ptrs c r :=
 ⟨h.head.ch hc (hd _ h.fp.1), h.row.ch hc (fun b hb => hd b hb.1), h.map.ch hc (hd _ h.fm.1), h.fp, h.fm, fun b hb => Nat.lt_of_lt_of_le (h.lt b hb) hc.size, fun i hi => (h.qs i hi).ch hc (fun b hb => hd b hb.1), h.n1, h.n64, h.ok⟩
theorem RunqAt.ch {F G : Nat → Prop} {r : Runq} (h : RunqAt w F p r) (hc : Ch G w w') (hd : ∀ b, F b → ¬ G b) : RunqAt w' F p r := by
 obtain ⟨wb, rv, ptrs, c, h⟩ := h
 exact ⟨wb, rv, ptrs, c, h.ch hc hd⟩
theorem RunqAt.below {r : Runq} (h : RunqAt w F p r) (hb : Below w.heap.size w w') : RunqAt w' F p r := h.ch (Ch.off hb) (fun _ _ h => h)
theorem RunqAt.ltF {r : Runq} (h : RunqAt w F p r) : ∀ b, F b → b < w.heap.size := by
 obtain ⟨wb, rv, ptrs, c, h⟩ := h
 exact h.lt
theorem RunqAt.mono {F G : Nat → Prop} {r : Runq} (h : RunqAt w F p r) (hd : ∀ b, F b → G b) (hG : ∀ b, G b → b < w.heap.size) : RunqAt w G p r := by
 obtain ⟨wb, rv, ptrs, c, h⟩ := h
 exact ⟨wb, rv, ptrs, c, h.head, h.row.mono (fun b hb => ⟨hd b hb.1, hb.2⟩), h.map, ⟨hd _ h.fp.1, h.fp.2⟩, ⟨hd _ h.fm.1, h.fm.2⟩, hG, fun i hi => (h.qs i hi).mono (fun b hb => ⟨hd b hb.1, hb.2⟩) (fun b hb => hG b hb.1), h.n1, h.n64, h.ok⟩
theorem RunqAtQ.open {p wb : Nat} {rv : Value} {ptrs c : Nat → Nat} {r : Runq} (h : RunqAtQ w F p wb rv ptrs c r) : ∃ g cap, rv = .slice (some ⟨g, 0, none⟩) r.qs.length cap ∧ r.qs.length ≤ cap ∧ ∀ j, j < r.qs.length → w.cell? ⟨g, j, none⟩ = some (.pointer (some ⟨ptrs j, 0, none⟩)) := by
 obtain ⟨g, cap, h1, h2, _, _, _, h3, _⟩ := h.row.open h.n1
 exact ⟨g, cap, h1, h2, fun j hj => h3 j _ (ptrL_get hj)⟩
theorem RunqAtQ.turn {p wb : Nat} {rv : Value} {ptrs c : Nat → Nat} {r : Runq} (h : RunqAtQ w F p wb rv ptrs c r) {i : Nat} (hi : i < r.qs.length) {q : Prio} (hq : PrioAt w' (Plus w w' (Col F c (3 + i))) (ptrs i) q) (hc : Ch (Col F c (3 + i)) w w') : RunqAtQ w' (Plus w w' F) p wb rv ptrs (recol w c (3 + i)) ⟨r.qs.set i q, r.wh⟩ := by
 have hG : ∀ b, Plus w w' F b → b < w'.heap.size := Plus.lt h.lt hc.size
 refine ⟨h.head.ch hc (Col.apart (by omega) _ h.fp), ?_, h.map.ch hc (Col.apart (by omega) _ h.fm), Col.old h.lt _ h.fp, Col.old h.lt _ h.fm, hG, fun j hj => ?_, by simpa using h.n1, by simpa using h.n64, by simpa using h.ok⟩
 ·simp only [List.length_set]
  exact (h.row.ch hc (Col.apart (by omega))).mono (Col.old h.lt)
 ·have hj' : j < r.qs.length := by simpa using hj
  by_cases e : j = i
  ·subst e
   have : (r.qs.set j q).getD j noPrio = q := by rw [List.getD_eq_getElem?_getD, List.getElem?_set_self hi]; rfl
   show PrioAt w' _ _ ((r.qs.set j q).getD j noPrio)
   rw [this]
   exact hq.mono (Col.new h.lt) (fun b hb => hG b hb.1)
  ·have : (r.qs.set i q).getD j noPrio = r.qs.getD j noPrio := by rw [List.getD_eq_getElem?_getD, List.getElem?_set_ne (Ne.symm e), List.getD_eq_getElem?_getD]
   show PrioAt w' _ _ ((r.qs.set i q).getD j noPrio)
   rw [this]
   exact ((h.qs j hj').ch hc (Col.apart (by omega))).mono (Col.old h.lt) (fun b hb => hG b hb.1)
theorem RunqAtQ.put {p wb : Nat} {rv : Value} {ptrs c : Nat → Nat} {r : Runq} (h : RunqAtQ w F p wb rv ptrs c r) (d v : Int) (hv : 0 ≤ v ∧ v < r.qs.length) : RunqAtQ (mapPut w wb d (.int .i64 v)) F p wb rv ptrs c ⟨r.qs, mput r.wh d v⟩ := by
 have hc : Ch (Col F c 2) w (mapPut w wb d (.int .i64 v)) := (Ch.refl _ w).mapPut (fun _ => h.fm) d _
 exact ⟨h.head.ch hc (Col.apart (by omega) _ h.fp), h.row.ch hc (Col.apart (by omega)), h.map.put d v, h.fp, h.fm, fun b hb => by simpa using h.lt b hb, fun i hi => (h.qs i hi).ch hc (Col.apart (by omega)), h.n1, h.n64, fun x hx => (mem_mput hx).elim (fun e => by subst e; exact hv) (h.ok x)⟩
theorem RunqAtQ.del {p wb : Nat} {rv : Value} {ptrs c : Nat → Nat} {r : Runq} (h : RunqAtQ w F p wb rv ptrs c r) (d : Int) : RunqAtQ (mapDel w wb d) F p wb rv ptrs c ⟨r.qs, mdel r.wh d⟩ := by
 have hc : Ch (Col F c 2) w (mapDel w wb d) := (Ch.refl _ w).mapDel (fun _ => h.fm) d
 exact ⟨h.head.ch hc (Col.apart (by omega) _ h.fp), h.row.ch hc (Col.apart (by omega)), h.map.del d, h.fp, h.fm, fun b hb => by simpa using h.lt b hb, fun i hi => (h.qs i hi).ch hc (Col.apart (by omega)), h.n1, h.n64, fun x hx => h.ok x (mem_mdel hx)⟩
theorem rmay_any (w : World) {r : Runq} (h : RunqAt w F p r) (cpu : Int) : Calls prog 97 #[.pointer (some ⟨p, 0, none⟩), .int .i64 cpu] w fun e w' => e = .returned (.int .i64 (mayF r.qs.length cpu)) ∧ w = w' := by
 obtain ⟨wb, rv, ptrs, c, h⟩ := h;obtain ⟨g, cap, rfl, -, -⟩ := h.open
 have c0 : w.cell? ⟨p, 0, none⟩ = some (.slice (some ⟨g, 0, none⟩) r.qs.length cap) := h.head.cell 0
 clear h;generalize r.qs.length = n at *
 rcases may_cases n cpu with ⟨h1, e⟩ | ⟨h1, h2, e⟩ | ⟨i, rfl, h2, e⟩
 all_goals
  rw [e];clear e
  go_enter func97, ntmps97
  go_wp2;go_returns
  exact ⟨rfl, rfl⟩
def runqLoad (r : Runq) (cpu : Int) : Int := if mayF r.qs.length cpu ≠ 0 then 0 else ((r.qs.getD cpu.toNat noPrio).pr.length : Nat)
theorem rload_any (w : World) {r : Runq} (h : RunqAt w F p r) (cpu : Int) : Calls prog 28 #[.pointer (some ⟨p, 0, none⟩), .int .i64 cpu] w fun e w' => e = .returned (.int .i64 (runqLoad r cpu)) ∧ w = w' := by
 have A := Hd (rmay_any w h cpu);obtain ⟨wb, rv, ptrs, c, h⟩ := h;obtain ⟨g, cap, rfl, hle, hg⟩ := h.open
 have c0 : w.cell? ⟨p, 0, none⟩ = some (.slice (some ⟨g, 0, none⟩) r.qs.length cap) := h.head.cell 0
 unfold runqLoad
 by_cases hm : mayF r.qs.length cpu = 0
 ·obtain ⟨i, rfl, hi⟩ := may_yes hm
  have B := Hd (plen_any w (h.qs i hi))
  have ci := hg i hi
  rw [hm] at A ⊢;clear h hg hm
  simp only [Int.toNat_natCast, ne_eq, not_true, if_false] at B ⊢
  generalize (r.qs.getD i noPrio).pr.length = L at *;generalize r.qs.length = n at *
  go_enter func28, ntmps28
  go_wp2_with fail;refine A.out.mono ?_;rintro e w1 ⟨rfl, rfl⟩;go_wp2_with fail;refine B.out.mono ?_;rintro e w1 ⟨rfl, rfl⟩;go_wp2;go_returns
  exact ⟨rfl, rfl⟩
 ·have e := may_no hm
  rw [e] at A ⊢;clear h hg hm e
  go_enter func28, ntmps28
  go_wp2_with fail;refine A.out.mono ?_;rintro e w1 ⟨rfl, rfl⟩;go_wp2;go_returns
  exact ⟨rfl, rfl⟩
theorem rof_yes (w : World) {p wb : Nat} {rv : Value} {ptrs c : Nat → Nat} {r : Runq} (h : RunqAtQ w F p wb rv ptrs c r) {d v : Int} (hg : mget r.wh d = some v) : Calls prog 223 #[.pointer (some ⟨p, 0, none⟩), .int .i64 d] w fun e w' => e = .returned (.tuple #[.pointer (some ⟨ptrs v.toNat, 0, none⟩), .int .i64 0]) ∧ w = w' := by
 obtain ⟨g, cap, rfl, hle, hgc⟩ := h.open
 have c0 : w.cell? ⟨p, 0, none⟩ = some (.slice (some ⟨g, 0, none⟩) r.qs.length cap) := h.head.cell 0
 have c1 : w.cell? ⟨p, 1, none⟩ = some (.map (some wb)) := h.head.cell 1
 have hl := h.map.look underlying95 underlying3 (zero3 w) d
 rw [hg] at hl
 have hok := h.ok _ (mget_mem hg)
 dsimp only at hok
 obtain ⟨i, rfl⟩ : ∃ i : Nat, v = i := ⟨v.toNat, by omega⟩
 have ci := hgc i (by omega)
 have hi : i < r.qs.length := by omega
 clear h hgc hok hg;generalize r.qs.length = n at *
 go_enter func223, ntmps223
 go_wp2;go_returns
 exact ⟨rfl, rfl⟩
theorem rof_no (w : World) {p wb : Nat} {rv : Value} {ptrs c : Nat → Nat} {r : Runq} (h : RunqAtQ w F p wb rv ptrs c r) {d : Int} (hg : mget r.wh d = none) : Calls prog 223 #[.pointer (some ⟨p, 0, none⟩), .int .i64 d] w fun e w' => e = .returned (.tuple #[.pointer none, .int .i64 4]) ∧ w = w' := by
 have c1 : w.cell? ⟨p, 1, none⟩ = some (.map (some wb)) := h.head.cell 1
 have hl := h.map.look underlying95 underlying3 (zero3 w) d
 rw [hg] at hl;clear h hg
 go_enter func223, ntmps223
 go_wp2;go_returns
 exact ⟨rfl, rfl⟩
def runqPick (r : Runq) (cpu : Int) : Runq × Int × Int :=
 if mayF r.qs.length cpu ≠ 0 then (r, 0, 3) else
 if (prioTop (r.qs.getD cpu.toNat noPrio)).2 ≠ 0 then (r, 0, (prioTop (r.qs.getD cpu.toNat noPrio)).2) else
 (⟨r.qs.set cpu.toNat (prioTurn (r.qs.getD cpu.toNat noPrio)).1, r.wh⟩, (prioTop (r.qs.getD cpu.toNat noPrio)).1, (prioTurn (r.qs.getD cpu.toNat noPrio)).2)
theorem rpick_any (w : World) {r : Runq} (h : RunqAt w F p r) (cpu : Int) : Calls prog 206 #[.pointer (some ⟨p, 0, none⟩), .int .i64 cpu] w fun e w' => e = .returned (.tuple #[.int .i64 (runqPick r cpu).2.1, .int .i64 (runqPick r cpu).2.2]) ∧ RunqAt w' (Plus w w' F) p (runqPick r cpu).1 ∧ Ch F w w' := by
 have HT := Hd h;have A := Hd (rmay_any w h cpu);obtain ⟨wb, rv, ptrs, c, h⟩ := h;obtain ⟨g, cap, rfl, hle, hg⟩ := h.open
 have c0 : w.cell? ⟨p, 0, none⟩ = some (.slice (some ⟨g, 0, none⟩) r.qs.length cap) := h.head.cell 0
 unfold runqPick
 by_cases hm : mayF r.qs.length cpu = 0
 ·obtain ⟨i, rfl, hi⟩ := may_yes hm
  have B := Hd (pTop_any w (h.qs i hi))
  have D := fun w1 (hb : Below w.heap.size w w1) => Hd (pturn_any w1 ((h.qs i hi).below hb))
  have ci := hg i hi
  rw [hm] at A ⊢;have H := Hd h;have hi' := Hd hi;clear h hg hm
  simp only [Int.toNat_natCast, ne_eq, not_true, if_false] at B D ⊢
  generalize prioTop (r.qs.getD i noPrio) = t at *;generalize prioTurn (r.qs.getD i noPrio) = u at *
  obtain ⟨n, hn⟩ : ∃ n, n = r.qs.length := ⟨_, rfl⟩
  rw [← hn] at c0 hi hle;clear hn;obtain ⟨t1, t2⟩ := t;dsimp only at *
  by_cases ht : t2 = 0
  ·subst ht
   rw [if_neg (by simp)]
   go_enter func206, ntmps206
   go_wp2_with fail;refine A.out.mono ?_;rintro e w1 ⟨rfl, rfl⟩;go_wp2_with fail;refine B.out.mono ?_;rintro e w1 ⟨rfl, hb⟩
   replace D := D w1 hb
   have c0' := keepcell hb c0
   have ci' := keepcell hb ci
   replace hb := Hd hb;go_wp2_with fail;refine D.out.mono ?_;rintro e w2 ⟨rfl, h1, h2⟩;replace h1 := Hd h1;replace h2 := Hd h2;go_wp2;go_returns
   have hc : Ch (Col F c (3 + i)) w w2 := (Ch.of_below hb.out).then h2.out (fun _ _ h => h)
   exact ⟨rfl, ⟨_, _, _, _, H.out.turn hi'.out (h1.out.mono (fun b hb' => hb'.elim .inl (fun e => .inr ⟨Nat.le_trans hb.out.size e.1, e.2⟩)) (Plus.lt (Col.lt H.out.lt) hc.size)) hc⟩, Col.ch hc⟩
  ·have ht' : (t2 != 0) = true := by simpa using ht
   rw [if_pos ht];clear ht
   go_enter func206, ntmps206
   go_wp2_with fail;refine A.out.mono ?_;rintro e w1 ⟨rfl, rfl⟩;go_wp2_with fail;refine B.out.mono ?_;rintro e w1 ⟨rfl, hb⟩;replace hb := Hd hb;go_wp2;go_returns
   exact ⟨rfl, (HT.out.below hb.out).mono Plus.sub (Plus.lt HT.out.ltF hb.out.size), Ch.of_below hb.out⟩
 ·have e := may_no hm
  rw [e] at A ⊢;clear h hg hm e
  go_enter func206, ntmps206
  go_wp2_with fail;refine A.out.mono ?_;rintro e w1 ⟨rfl, rfl⟩;go_wp2;go_returns
  exact ⟨rfl, by rw [Plus.self]; exact HT.out, Ch.refl _ _⟩
def runqBack (r : Runq) (d : Int) : Runq × Int :=
 match mget r.wh d with
 | none => (r, 4)
 | some v => (⟨r.qs.set v.toNat (prioBack (r.qs.getD v.toNat noPrio) d).1, r.wh⟩, (prioBack (r.qs.getD v.toNat noPrio) d).2)
theorem rback_any (w : World) {r : Runq} (h : RunqAt w F p r) (d : Int) : Calls prog 135 #[.pointer (some ⟨p, 0, none⟩), .int .i64 d] w fun e w' => e = .returned (.int .i64 (runqBack r d).2) ∧ RunqAt w' (Plus w w' F) p (runqBack r d).1 ∧ Ch F w w' := by
 have HT := Hd h;obtain ⟨wb, rv, ptrs, c, h⟩ := h;unfold runqBack
 cases hg : mget r.wh d with
 | none =>
  have A := Hd (rof_no w h hg);clear h hg
  go_enter func135, ntmps135
  go_wp2_with fail;refine A.out.mono ?_;rintro e w1 ⟨rfl, rfl⟩;go_wp2;go_returns
  exact ⟨rfl, by rw [Plus.self]; exact HT.out, Ch.refl _ _⟩
 | some v =>
  have A := Hd (rof_yes w h hg)
  have hok := h.ok _ (mget_mem hg)
  have hi : v.toNat < r.qs.length := by dsimp only at hok; omega
  have B := Hd (pback_any w (h.qs v.toNat hi) d)
  have H := Hd h;clear h hg hok;dsimp only;replace hi := Hd hi;generalize prioBack (r.qs.getD v.toNat noPrio) d = u at *
  go_enter func135, ntmps135
  go_wp2_with fail;refine A.out.mono ?_;rintro e w1 ⟨rfl, rfl⟩;go_wp2_with fail;refine B.out.mono ?_;rintro e w2 ⟨rfl, h1, h2⟩;replace h1 := Hd h1;replace h2 := Hd h2;go_wp2;go_returns
  exact ⟨rfl, ⟨_, _, _, _, H.out.turn hi.out h1.out h2.out⟩, Col.ch h2.out⟩
def runqTake (r : Runq) (d : Int) : Runq × Int :=
 match mget r.wh d with
 | none => (r, 4)
 | some v => (⟨r.qs.set v.toNat (prioDrop (r.qs.getD v.toNat noPrio) d).1, mdel r.wh d⟩, (prioDrop (r.qs.getD v.toNat noPrio) d).2)
theorem rtake_any (w : World) {r : Runq} (h : RunqAt w F p r) (d : Int) : Calls prog 218 #[.pointer (some ⟨p, 0, none⟩), .int .i64 d] w fun e w' => e = .returned (.int .i64 (runqTake r d).2) ∧ RunqAt w' (Plus w w' F) p (runqTake r d).1 ∧ Ch F w w' := by
 have HT := Hd h;obtain ⟨wb, rv, ptrs, c, h⟩ := h;unfold runqTake
 cases hg : mget r.wh d with
 | none =>
  have A := Hd (rof_no w h hg);clear h hg
  go_enter func218, ntmps218
  go_wp2_with fail;refine A.out.mono ?_;rintro e w1 ⟨rfl, rfl⟩;go_wp2;go_returns
  exact ⟨rfl, by rw [Plus.self]; exact HT.out, Ch.refl _ _⟩
 | some v =>
  have A := Hd (rof_yes w h hg)
  have hok := h.ok _ (mget_mem hg)
  have hi : v.toNat < r.qs.length := by dsimp only at hok; omega
  have c1 : w.cell? ⟨p, 1, none⟩ = some (.map (some wb)) := h.head.cell 1
  have hdel := fun ty => run_del (P := prog) h.map underlying95 underlying3 d ty 3
  have hX := h.del d
  have B := Hd (pdrop_any (mapDel w wb d) (hX.qs v.toNat hi) d)
  replace hX := Hd hX;have H := Hd h;clear h hg hok;dsimp only at B ⊢;replace hi := Hd hi;generalize prioDrop (r.qs.getD v.toNat noPrio) d = u at *
  go_enter func218, ntmps218
  go_wp2_with fail;refine A.out.mono ?_;rintro e w1 ⟨rfl, rfl⟩;go_wp2_with fail;refine B.out.mono ?_;rintro e w2 ⟨rfl, h1, h2⟩;replace h1 := Hd h1;replace h2 := Hd h2;go_wp2;go_returns
  have hr := hX.out.turn hi.out h1.out h2.out
  rw [Plus.of_size (show (mapDel w wb d).heap.size = w.heap.size by simp)] at hr
  exact ⟨rfl, ⟨_, _, _, _, hr⟩, ((Ch.refl F w).mapDel (fun _ => H.out.fm.1) d).trans (Col.ch h2.out)⟩
def runqList (r : Runq) (cpu : Int) : List Int := if mayF r.qs.length cpu ≠ 0 then [] else prioList (r.qs.getD cpu.toNat noPrio)
theorem rlist_any (w : World) {r : Runq} (h : RunqAt w F p r) (cpu : Int) : Calls prog 250 #[.pointer (some ⟨p, 0, none⟩), .int .i64 cpu] w fun e w' => (∃ v, e = .returned v ∧ IntsAt w' (New w) v (runqList r cpu)) ∧ Below w.heap.size w w' := by
 have A := Hd (rmay_any w h cpu);obtain ⟨wb, rv, ptrs, c, h⟩ := h;obtain ⟨g, cap, rfl, hle, hg⟩ := h.open
 have c0 : w.cell? ⟨p, 0, none⟩ = some (.slice (some ⟨g, 0, none⟩) r.qs.length cap) := h.head.cell 0
 unfold runqList
 by_cases hm : mayF r.qs.length cpu = 0
 ·obtain ⟨i, rfl, hi⟩ := may_yes hm
  have B := Hd (plist_any w (h.qs i hi))
  have ci := hg i hi
  rw [hm] at A ⊢;clear h hg hm
  simp only [Int.toNat_natCast, ne_eq, not_true, if_false] at B ⊢
  generalize prioList (r.qs.getD i noPrio) = L at *;generalize r.qs.length = n at *
  go_enter func250, ntmps250
  go_wp2_with fail;refine A.out.mono ?_;rintro e w1 ⟨rfl, rfl⟩;go_wp2_with fail;refine B.out.mono ?_;rintro e w1 ⟨⟨v, rfl, hv⟩, hb⟩;replace hv := Hd hv;replace hb := Hd hb;go_wp2;go_returns
  exact ⟨⟨v, rfl, hv.out⟩, hb.out⟩
 ·have e := may_no hm
  rw [e] at A ⊢;clear h hg hm e
  go_enter func250, ntmps250
  go_wp2_with fail;refine A.out.mono ?_;rintro e w1 ⟨rfl, rfl⟩;go_wp2;go_returns
  exact ⟨⟨_, rfl, IntsAt.nil _ _⟩, Below.refl _ _⟩
def runqPutW (r : Runq) (cpu d : Int) (u : Prio × Int) : Runq × Int := (⟨r.qs.set cpu.toNat u.1, if u.2 = 0 then mput r.wh d cpu else r.wh⟩, u.2)
def runqPut (r : Runq) (cpu prio d : Int) : Runq × Int :=
 if mayF r.qs.length cpu ≠ 0 then (r, 3) else
 if (mget r.wh d).isSome then (r, 6) else
 runqPutW r cpu d (prioPush (r.qs.getD cpu.toNat noPrio) prio d)
theorem rput_any (w : World) {r : Runq} (h : RunqAt w F p r) (cpu prio d : Int) : Calls prog 217 #[.pointer (some ⟨p, 0, none⟩), .int .i64 cpu, .int .i64 prio, .int .i64 d] w fun e w' => e = .returned (.int .i64 (runqPut r cpu prio d).2) ∧ RunqAt w' (Plus w w' F) p (runqPut r cpu prio d).1 ∧ Ch F w w' := by
 have HT := Hd h;have A := Hd (rmay_any w h cpu);obtain ⟨wb, rv, ptrs, c, h⟩ := h;obtain ⟨g, cap, rfl, hle, hg⟩ := h.open
 have c0 : w.cell? ⟨p, 0, none⟩ = some (.slice (some ⟨g, 0, none⟩) r.qs.length cap) := h.head.cell 0
 have c1 : w.cell? ⟨p, 1, none⟩ = some (.map (some wb)) := h.head.cell 1
 have hl := h.map.look underlying95 underlying3 (zero3 w) d
 unfold runqPut
 by_cases hm : mayF r.qs.length cpu = 0
 ·obtain ⟨i, rfl, hi⟩ := may_yes hm
  have ci := hg i hi
  rw [hm] at A ⊢;rw [if_neg (by simp)]
  cases hs : (mget r.wh d).isSome with
  | true =>
   rw [hs] at hl;clear h hg hm hs;generalize (mget r.wh d).getD 0 = v at *
   go_enter func217, ntmps217
   go_wp2_with fail;refine A.out.mono ?_;rintro e w1 ⟨rfl, rfl⟩;go_wp2;go_returns
   exact ⟨rfl, by rw [Plus.self]; exact HT.out, Ch.refl _ _⟩
  | false =>
   rw [hs] at hl
   have B := Hd (ppush_any w (h.qs i hi) prio d)
   have H := Hd h;have hi' := Hd hi;clear h hg hm hs
   simp only [Int.toNat_natCast, Bool.false_eq_true, if_false] at B ⊢
   generalize (mget r.wh d).getD 0 = v at *;generalize prioPush (r.qs.getD i noPrio) prio d = u at *;obtain ⟨u1, u2⟩ := u;unfold runqPutW;dsimp only at *
   obtain ⟨n, hn⟩ : ∃ n, n = r.qs.length := ⟨_, rfl⟩
   rw [← hn] at c0 hi hle;clear hn
   have hne : p ≠ wb := fun e => by subst e; have := H.out.fp.2.symm.trans H.out.fm.2; omega
   by_cases hu : u2 = 0
   ·subst hu
    rw [if_pos rfl]
    go_enter func217, ntmps217
    go_wp2_with fail;refine A.out.mono ?_;rintro e w1 ⟨rfl, rfl⟩;go_wp2_with fail;refine B.out.mono ?_;rintro e w2 ⟨rfl, h1, h2⟩
    have hX := H.out.turn hi'.out h1 h2
    have c1' : w2.cell? ⟨p, 1, none⟩ = some (.map (some wb)) := hX.head.cell 1
    have hput := run_put (P := prog) hX.map underlying95 underlying3 d (.int .i64 i)
    replace hX := Hd hX;replace h2 := Hd h2;clear h1;go_wp2;go_returns
    have hy := hX.out.put d i (by have := hi'.out; simp; omega)
    rw [Plus.of_size' (w' := mapPut w2 wb d (.int .i64 i)) (by simp)] at hy
    exact ⟨rfl, ⟨_, _, _, _, hy⟩, (Col.ch h2.out).mapPut (fun _ => H.out.fm.1) d _⟩
   ·have hu' : (u2 == 0) = false := by simpa using hu
    rw [if_neg hu];clear hu
    go_enter func217, ntmps217
    go_wp2_with fail;refine A.out.mono ?_;rintro e w1 ⟨rfl, rfl⟩;go_wp2_with fail;refine B.out.mono ?_;rintro e w2 ⟨rfl, h1, h2⟩;replace h1 := Hd h1;replace h2 := Hd h2;go_wp2;go_returns
    exact ⟨rfl, ⟨_, _, _, _, H.out.turn hi'.out h1.out h2.out⟩, Col.ch h2.out⟩
 ·have e := may_no hm
  rw [e] at A ⊢;clear h hg hm e
  go_enter func217, ntmps217
  go_wp2_with fail;refine A.out.mono ?_;rintro e w1 ⟨rfl, rfl⟩;go_wp2;go_returns
  exact ⟨rfl, by rw [Plus.self]; exact HT.out, Ch.refl _ _⟩
theorem info178 : (prog.info? 178).map (fun i => (i.zero, i.size, i.bytes)) = some (some (.pointer none), 1, 8) := by kernel_rfl
def prio0 : Prio := ⟨List.replicate 8 [], []⟩
structure RunqPart (w w' : World) (p wb k : Nat) (rv : Value) (ptrs c : Nat → Nat) : Prop where
 head : Blk w' p #[rv, .map (some wb)] 181
 row : RowAt w' (Col (Plus w w' (fun _ => False)) c 1) 178 1 rv k (ptrL ptrs k)
 map : IMapAt w' wb []
 fp : Col (Plus w w' (fun _ => False)) c 0 p
 fm : Col (Plus w w' (fun _ => False)) c 2 wb
 qs : ∀ i, i < k → PrioAt w' (Col (Plus w w' (fun _ => False)) c (3 + i)) (ptrs i) prio0
 below : Below w.heap.size w w'
open Classical in
theorem RunqPart.step {w w1 w2 w3 : World} {o : Obj} {p wb k x : Nat} {rv v' : Value} {ptrs c : Nat → Nat} (h : RunqPart w w1 p wb k rv ptrs c) (hx : PrioAt w2 (Plus w1 w2 (fun _ => False)) x prio0) (hb : Below w1.heap.size w1 w2)
  (hr : RowAt w3 (Plus (w2.alloc o) w3 (Col (Plus w w1 (fun _ => False)) c 1)) 178 1 v' (k + 1) (ptrL ptrs k ++ [.pointer (some ⟨x, 0, none⟩)])) (hc : Ch (Col (Plus w w1 (fun _ => False)) c 1) (w2.alloc o) w3) :
  ∃ c', RunqPart w (w3.setCell ⟨p, 0, none⟩ v') p wb (k + 1) v' (fun i => if i = k then x else ptrs i) c' := by
 have s1 := h.below.size;have s2 := hb.size
 have s3 : w2.heap.size + 1 ≤ w3.heap.size := by have := hc.size; simpa using this
 have hlt := h.head.lt
 have hoff : Ch (fun _ => False) w1 w2 := Ch.off hb
 have hc13 : Ch (Col (Plus w w1 (fun _ => False)) c 1) w1 w3 := ((hoff.mono (fun _ _ h => h.elim)).alloc o).trans (hc.mono (fun _ _ h => h))
 have hc14 : Ch (fun b => Col (Plus w w1 (fun _ => False)) c 1 b ∨ b = p) w1 (w3.setCell ⟨p, 0, none⟩ v') := (hc13.mono (fun _ _ h => .inl h)).setCell (p := ⟨p, 0, none⟩) (fun _ => .inr rfl) _
 obtain ⟨c', hc'⟩ : ∃ c' : Nat → Nat, c' = fun b => if b < w1.heap.size then c b else if b < w2.heap.size then 3 + k else 1 := ⟨_, rfl⟩
 have old : ∀ i b, Col (Plus w w1 (fun _ => False)) c i b → Col (Plus w (w3.setCell ⟨p, 0, none⟩ v') (fun _ => False)) c' i b := fun i b hb' => by
  have h1 := plus0_lt b hb'.1
  refine ⟨.inr ⟨hb'.1.elim (fun e => e.elim) (fun e => e.1), by simp; omega⟩, ?_⟩
  rw [hc']
  simp only [h1, if_true]
  exact hb'.2
 have ne1 : ∀ i, i ≠ 1 → i ≠ 0 → ∀ b, Col (Plus w w1 (fun _ => False)) c i b → ¬ (Col (Plus w w1 (fun _ => False)) c 1 b ∨ b = p) := fun i h1 h0 b hb' e => e.elim (fun e => by have := hb'.2.symm.trans e.2; omega) (fun e => by subst e; have := hb'.2.symm.trans h.fp.2; omega)
 refine ⟨c', ?_, ?_, h.map.ch hc14 (ne1 2 (by omega) (by omega) _ h.fm), old _ _ h.fp, old _ _ h.fm, fun i hi => ?_, ?_⟩
 ·have h1 : Blk w3 p #[rv, .map (some wb)] 181 := h.head.ch hc13 (Col.apart (by omega) _ h.fp)
  exact h1.set 0 v'
 ·rw [ptrL_succ]
  refine (hr.ch ((Ch.refl (fun b => b = p) w3).put 0 v') (fun b hb' e => ?_)).mono (fun b hb' => ?_)
  ·have e : b = p := e
   subst e
   exact hb'.elim (fun e => by have := e.2.symm.trans h.fp.2; omega) (fun e => by have := e.1; simp at this; omega)
  ·refine hb'.elim (old 1 b) (fun e => ?_)
   have e1 := e.1;have e2 := e.2
   simp only [World.size_alloc] at e1
   refine ⟨.inr ⟨by omega, by simpa using e2⟩, ?_⟩
   rw [hc']
   simp only [show ¬ b < w1.heap.size by omega, show ¬ b < w2.heap.size by omega, if_false]
 ·by_cases e : i = k
  ·subst e
   simp only [if_true]
   refine ((hx.ch ((Ch.refl (fun _ => False) w2).alloc o) (fun _ _ h => h)).ch ((hc.mono (fun _ _ h => .inl h)).setCell (F := fun b => Col (Plus w w1 (fun _ => False)) c 1 b ∨ b = p) (p := ⟨p, 0, none⟩) (fun _ => .inr rfl) v') (fun b hb' e => ?_)).mono (fun b hb' => ?_) ?_
   ·have h1 : w1.heap.size ≤ b := hb'.elim (fun e => e.elim) (fun e => e.1)
    exact e.elim (fun e => by have := plus0_lt b e.1; omega) (fun e => by omega)
   ·obtain ⟨h1, h2⟩ : w1.heap.size ≤ b ∧ b < w2.heap.size := hb'.elim (fun e => e.elim) (fun e => e)
    refine ⟨.inr ⟨by omega, by simp; omega⟩, ?_⟩
    rw [hc']
    simp only [show ¬ b < w1.heap.size by omega, h2, if_false, if_true]
   ·exact fun b hb' => plus0_lt b hb'.1
  ·simp only [e, if_false]
   exact ((h.qs i (by omega)).ch hc14 (ne1 (3 + i) (by omega) (by omega))).mono (old _) (fun b hb' => plus0_lt b hb'.1)
 ·have h3 : Below w.heap.size w w3 := ⟨hc13.os.trans h.below.os, hc13.tape.trans h.below.tape, hc13.output.trans h.below.output, by omega, fun j hj => (hc13.block j (by omega) (fun e => by have := e.1.elim (fun e => e.elim) (fun e => e.1); omega)).trans (h.below.block j hj)⟩
  have hp : w.heap.size ≤ p := h.fp.1.elim (fun e => e.elim) (fun e => e.1)
  exact h3.setCell (p := ⟨p, 0, none⟩) hp v'
def runq0 (cpus : Nat) : Runq := ⟨List.replicate cpus prio0, []⟩
theorem runq_new (w : World) (cpus : Nat) (h1 : 1 ≤ cpus) (h64 : cpus ≤ 64) : Calls prog 52 #[.int .i64 cpus] w fun e w' => (∃ p, e = .returned (.tuple #[.pointer (some ⟨p, 0, none⟩), .int .i64 0]) ∧ RunqAt w' (Plus w w' (fun _ => False)) p (runq0 cpus)) ∧ Below w.heap.size w w' := by
 have hmm := @run_makeMap prog
 go_enter func52, ntmps52
 go_wp2
 have H0 : RunqPart w ((w.alloc (.map #[] 0)).alloc (.cells #[.slice none 0 0, .map (some w.heap.size)] 181)) (w.heap.size + 1) w.heap.size 0 (.slice none 0 0) (fun _ => 0) (fun b => if b = w.heap.size then 2 else 0) := by
  refine ⟨Blk.at _ _ (by simp), RowAt.nil _ _ _ _, MapAt.ch (MapAt.new w) ((Ch.refl (fun _ => False) _).alloc _) (fun h => h), ⟨.inr ⟨by omega, by simp⟩, by simp⟩, ⟨.inr ⟨by omega, by simp; omega⟩, by simp⟩, fun i hi => by omega, ((Below.refl _ _).alloc (Nat.le_refl _) _).alloc (by simp) _⟩
 replace H0 := Hd H0
 go_loopw [17, 5, 6] (fun iv _ _ wr => ∃ k : Nat, iv = .int .i64 k ∧ k ≤ cpus ∧ ∃ rv ptrs c, Hid (RunqPart w wr (w.heap.size + 1) w.heap.size k rv ptrs c)) (fun iv _ _ _ => cpus - (intOf iv).toNat)
 case atStart => exact ⟨0, rfl, by omega, _, _, _, H0⟩
 case round =>
  clear H0 hmm;obtain ⟨k, rfl, hk, rv, ptrs, c, H⟩ := hrel
  by_cases hlt : k < cpus
  ·have A := Hd (prio_new wr)
   have c0 : wr.cell? ⟨w.heap.size + 1, 0, none⟩ = some rv := H.out.head.cell 0
   obtain ⟨base, cap, rfl⟩ := H.out.row.form;go_wp2_with fail;refine A.out.mono ?_;rintro e w2 ⟨⟨x, rfl, hx⟩, hb⟩
   have hz := (H.out.head.ch (Ch.off hb) (fun h => h))
   have c2 : w2.cell? ⟨w.heap.size + 1, 0, none⟩ = some (.slice base k cap) := hz.cell 0
   have hrow := fun o => RowAt.ch H.out.row (((Ch.off hb)).alloc o) (fun _ _ h => h)
   replace hrow := Hd hrow;replace hx := Hd hx;have HB := Hd hb;replace hz := Hd hz;clear hb
   go_wp2_with (at_builtin; refine wpList_app rfl _ _ 179 rfl info178 underlying179 rfl (by omega) (hrow.out _) (a := ⟨w2.heap.size, 0, none⟩) (m := 1) (c := 1) (news := [.pointer (some ⟨x, 0, none⟩)]) rfl rfl rfl ?_ (by simp [Value.oneCell']) (by omega) (by unfold maxLen; omega) (by omega) ?_)
   ·intro j u hj
    cases j with
    | zero =>
     have : u = .pointer (some ⟨x, 0, none⟩) := by simpa using hj.symm
     subst this
     exact cell_at1 _ _ rfl
    | succ j => simp at hj
   ·intro v' w3 h5 h6
    have hz3 := (hz.out.alloc _).ch h6 (Col.apart (by omega) _ H.out.fp)
    have c3 : w3.cell? ⟨w.heap.size + 1, 0, none⟩ = some (.slice base k cap) := hz3.cell 0
    have f3 : w3.frozen? ⟨w.heap.size + 1, 0, none⟩ = false := hz3.frozen 0
    obtain ⟨base', cap', rfl⟩ := h5.form
    obtain ⟨c', hst⟩ := H.out.step hx.out HB.out h5 h6
    replace hst := Hd hst;clear hz3 h5 h6 hz hrow hx HB H A;go_wp2;go_roundw
    case rel => exact ⟨k + 1, by go_num, hlt, _, _, _, hst⟩
    case measure => simp [intOf]; omega
  ·have : k = cpus := by omega
   subst this;go_wp2;go_returns;have H2 := H.out
   refine ⟨⟨_, rfl, _, _, ptrs, c, H2.head, ?_, H2.map, H2.fp, H2.fm, plus0_lt, fun i hi => ?_, by simpa [runq0] using h1, by simpa [runq0] using h64, fun x hx => by cases hx⟩, H2.below⟩
   ·simpa [runq0] using H2.row
   ·have hi' : i < k := by simpa [runq0] using hi
    have e : (runq0 k).qs.getD i noPrio = prio0 := by simp [runq0, hi']
    rw [e]
    exact H2.qs i hi'
theorem Tab.two (h : Tab w) : 2 < w.heap.size := World.block_lt_of_cell? w _ (h 0 (by decide))
def bestF (load : Int → Int) (better : Int → Int → Bool) (l : List Int) : Int := l.foldl (fun a cpu => if better (load cpu) (load a) then cpu else a) (l.headD 0)
def runqBest (r : Runq) (better : Int → Int → Bool) (m : Nat) : Int × Int :=
 if listF (m &&& uptoF r.qs.length) = [] then (0, 12) else (bestF (runqLoad r) better (listF (m &&& uptoF r.qs.length)), 0)
def moreF (a b : Int) : Bool := decide (b < a)
def fewerF (a b : Int) : Bool := decide (a < b)
theorem more_any (a b : Int) (w : World) : Calls prog 302 #[.int .i64 a, .int .i64 b] w fun e w' => e = .returned (.bool (moreF a b)) ∧ w = w' := by
 unfold moreF
 go_enter func302, ntmps302
 go_wp2;go_returns
 exact ⟨rfl, rfl⟩
theorem fewer_any (a b : Int) (w : World) : Calls prog 303 #[.int .i64 a, .int .i64 b] w fun e w' => e = .returned (.bool (fewerF a b)) ∧ w = w' := by
 unfold fewerF
 go_enter func303, ntmps303
 go_wp2;go_returns
 exact ⟨rfl, rfl⟩
theorem rbest_busy (w : World) (hT : Tab w) {r : Runq} (h : RunqAt w F p r) (m : Nat) (hm : m < top64) : Calls prog 301 #[.pointer (some ⟨p, 0, none⟩), .int .u64 m, .func (.func 302) #[] #[]] w fun e w' => e = .returned (.tuple #[.int .i64 (runqBest r moreF m).1, .int .i64 (runqBest r moreF m).2]) ∧ Below w.heap.size w w' := by
 have HT := Hd h;have h2 := hT.two;have hT := Hd hT;unfold runqBest;obtain ⟨wb, rv, ptrs, c, h⟩ := h;obtain ⟨g, cap, rfl, hle, hg⟩ := h.open
 have c0 : w.cell? ⟨p, 0, none⟩ = some (.slice (some ⟨g, 0, none⟩) r.qs.length cap) := h.head.cell 0
 have A := Hd (upto_any r.qs.length w)
 have B := Hd (and_any m (uptoF r.qs.length) hm (uptoF_lt _) w)
 have hlt := (Nat.lt_of_le_of_lt Nat.and_le_left hm : m &&& uptoF r.qs.length < top64)
 have D := Hd (mlist_any (m &&& uptoF r.qs.length) hlt w hT.out h2)
 clear h hg;generalize r.qs.length = n at *;generalize m &&& uptoF n = u at *;generalize listF u = l at *
 cases l with
 | nil =>
  rw [if_pos rfl]
  go_enter func301, ntmps301
  go_wp2_with fail;refine A.out.mono ?_;rintro e w1 ⟨rfl, rfl⟩;go_wp2_with fail;refine B.out.mono ?_;rintro e w1 ⟨rfl, rfl⟩;go_wp2_with fail;refine D.out.mono ?_;rintro e w1 ⟨⟨v, rfl, hv⟩, hb⟩
  obtain ⟨base, cap, rfl⟩ := RowAt.form hv
  replace hb := Hd hb;clear hv;go_wp2;go_returns
  exact ⟨rfl, hb.out⟩
 | cons x t =>
  rw [if_neg (by simp)]
  obtain ⟨L, hL⟩ : ∃ L, L = x :: t := ⟨_, rfl⟩
  have hx : L.headD 0 = x := by rw [hL]; rfl
  rw [← hL] at D ⊢
  have hpos : 0 < L.length := by rw [hL]; simp
  have hx0 : L.getD 0 0 = x := by rw [hL]; rfl
  clear hL
  obtain ⟨N, hN⟩ : ∃ N, N = L.length := ⟨_, rfl⟩
  rw [← hN] at hpos;replace hN := Hd hN
  have hNe : ((N : Int) == 0) = false := by simp; omega
  unfold bestF;rw [hx]
  go_enter func301, ntmps301
  go_wp2_with fail;refine A.out.mono ?_;rintro e w1 ⟨rfl, rfl⟩;go_wp2_with fail;refine B.out.mono ?_;rintro e w1 ⟨rfl, rfl⟩;go_wp2_with fail;refine D.out.mono ?_;rintro e w1 ⟨⟨v, rfl, hv⟩, hb⟩;have HR := Hd (HT.out.below hb);replace hb := Hd hb
  obtain ⟨b, bc, rfl, hl1, hl2, -, -, hcell, -⟩ := IntsAt.open hv (by rw [← hN.out]; exact hpos)
  have hNb : N ≤ 9223372036854775807 := by have := hN.out; unfold maxLen at hl2; omega
  clear hl1 hl2;rw [← hN.out] at hcell;rw [← hN.out]
  have cz : w1.cell? ⟨b, 0, none⟩ = some (.int .i64 x) := by rw [hcell 0 hpos, hx0]
  clear hv;replace hcell := Hd hcell;go_wp2
  go_loop [31, 9, 11] (fun iv av _ => ∃ k : Nat, iv = .int .i64 k ∧ k ≤ N ∧ av = .int .i64 ((L.take k).foldl (fun a cpu => if moreF (runqLoad r cpu) (runqLoad r a) then cpu else a) x)) (fun iv _ _ => N - (intOf iv).toNat)
  case atStart => exact ⟨0, rfl, by omega, rfl⟩
  case round =>
   obtain ⟨k, rfl, hk, rfl⟩ := hrel
   by_cases hlt : k < N
   ·have ck := hcell.out k hlt
    have hg2 : L[k]? = some (L.getD k 0) := by rw [List.getD_eq_getElem?_getD, List.getElem?_eq_getElem (by rw [← hN.out]; exact hlt)]; rfl
    have hs : L.take (k + 1) = L.take k ++ [L.getD k 0] := by rw [List.take_add_one, hg2]; rfl
    obtain ⟨y, hy⟩ : ∃ y, y = L.getD k 0 := ⟨_, rfl⟩
    rw [← hy] at ck hs;clear hg2;replace hs := Hd hs;replace hy := Hd hy
    obtain ⟨z, hz⟩ : ∃ z, z = (L.take k).foldl (fun a cpu => if moreF (runqLoad r cpu) (runqLoad r a) then cpu else a) x := ⟨_, rfl⟩
    rw [← hz];replace hz := Hd hz;have U := Hd (rload_any w1 HR.out y);have V := Hd (rload_any w1 HR.out z)
    have W := Hd (more_any (runqLoad r y) (runqLoad r z) w1)
    obtain ⟨bb, hbb⟩ : ∃ bb, bb = moreF (runqLoad r y) (runqLoad r z) := ⟨_, rfl⟩
    rw [← hbb] at W;replace hbb := Hd hbb
    cases bb
    all_goals
     go_wp2_with fail;refine U.out.mono ?_;rintro e w1 ⟨rfl, rfl⟩;go_wp2_with fail;refine V.out.mono ?_;rintro e w1 ⟨rfl, rfl⟩;go_wp2_with fail;refine W.out.mono ?_;rintro e w1 ⟨rfl, rfl⟩;go_wp2
     go_round
     case rel => exact ⟨k + 1, by go_num, hlt, by rw [hs.out, List.foldl_append, ← hz.out]; simp only [List.foldl_cons, List.foldl_nil, ← hbb.out]; rfl⟩
     case measure => simp [intOf]; omega
   ·have : k = N := by omega
    subst this;go_wp2;go_returns
    have e : L.take k = L := by rw [hN.out]; exact List.take_length
    rw [e]
    exact ⟨rfl, hb.out⟩
theorem rbusy_any (w : World) (hT : Tab w) {r : Runq} (h : RunqAt w F p r) (m : Nat) (hm : m < top64) : Calls prog 247 #[.pointer (some ⟨p, 0, none⟩), .int .u64 m] w fun e w' => e = .returned (.tuple #[.int .i64 (runqBest r moreF m).1, .int .i64 (runqBest r moreF m).2]) ∧ Below w.heap.size w w' := by
 have A := Hd (rbest_busy w hT h m hm);clear h hT;generalize runqBest r moreF m = u at *
 go_enter func247, ntmps247
 go_wp2_with fail;refine A.out.mono ?_;rintro e w1 ⟨rfl, hb⟩;replace hb := Hd hb;go_wp2;go_returns
 exact ⟨rfl, hb.out⟩
theorem rbest_idle (w : World) (hT : Tab w) {r : Runq} (h : RunqAt w F p r) (m : Nat) (hm : m < top64) : Calls prog 301 #[.pointer (some ⟨p, 0, none⟩), .int .u64 m, .func (.func 303) #[] #[]] w fun e w' => e = .returned (.tuple #[.int .i64 (runqBest r fewerF m).1, .int .i64 (runqBest r fewerF m).2]) ∧ Below w.heap.size w w' := by
 have HT := Hd h;have h2 := hT.two;have hT := Hd hT;unfold runqBest;obtain ⟨wb, rv, ptrs, c, h⟩ := h;obtain ⟨g, cap, rfl, hle, hg⟩ := h.open
 have c0 : w.cell? ⟨p, 0, none⟩ = some (.slice (some ⟨g, 0, none⟩) r.qs.length cap) := h.head.cell 0
 have A := Hd (upto_any r.qs.length w)
 have B := Hd (and_any m (uptoF r.qs.length) hm (uptoF_lt _) w)
 have hlt := (Nat.lt_of_le_of_lt Nat.and_le_left hm : m &&& uptoF r.qs.length < top64)
 have D := Hd (mlist_any (m &&& uptoF r.qs.length) hlt w hT.out h2)
 clear h hg;generalize r.qs.length = n at *;generalize m &&& uptoF n = u at *;generalize listF u = l at *
 cases l with
 | nil =>
  rw [if_pos rfl]
  go_enter func301, ntmps301
  go_wp2_with fail;refine A.out.mono ?_;rintro e w1 ⟨rfl, rfl⟩;go_wp2_with fail;refine B.out.mono ?_;rintro e w1 ⟨rfl, rfl⟩;go_wp2_with fail;refine D.out.mono ?_;rintro e w1 ⟨⟨v, rfl, hv⟩, hb⟩
  obtain ⟨base, cap, rfl⟩ := RowAt.form hv
  replace hb := Hd hb;clear hv;go_wp2;go_returns
  exact ⟨rfl, hb.out⟩
 | cons x t =>
  rw [if_neg (by simp)]
  obtain ⟨L, hL⟩ : ∃ L, L = x :: t := ⟨_, rfl⟩
  have hx : L.headD 0 = x := by rw [hL]; rfl
  rw [← hL] at D ⊢
  have hpos : 0 < L.length := by rw [hL]; simp
  have hx0 : L.getD 0 0 = x := by rw [hL]; rfl
  clear hL
  obtain ⟨N, hN⟩ : ∃ N, N = L.length := ⟨_, rfl⟩
  rw [← hN] at hpos;replace hN := Hd hN
  have hNe : ((N : Int) == 0) = false := by simp; omega
  unfold bestF;rw [hx]
  go_enter func301, ntmps301
  go_wp2_with fail;refine A.out.mono ?_;rintro e w1 ⟨rfl, rfl⟩;go_wp2_with fail;refine B.out.mono ?_;rintro e w1 ⟨rfl, rfl⟩;go_wp2_with fail;refine D.out.mono ?_;rintro e w1 ⟨⟨v, rfl, hv⟩, hb⟩;have HR := Hd (HT.out.below hb);replace hb := Hd hb
  obtain ⟨b, bc, rfl, hl1, hl2, -, -, hcell, -⟩ := IntsAt.open hv (by rw [← hN.out]; exact hpos)
  have hNb : N ≤ 9223372036854775807 := by have := hN.out; unfold maxLen at hl2; omega
  clear hl1 hl2;rw [← hN.out] at hcell;rw [← hN.out]
  have cz : w1.cell? ⟨b, 0, none⟩ = some (.int .i64 x) := by rw [hcell 0 hpos, hx0]
  clear hv;replace hcell := Hd hcell;go_wp2
  go_loop [31, 9, 11] (fun iv av _ => ∃ k : Nat, iv = .int .i64 k ∧ k ≤ N ∧ av = .int .i64 ((L.take k).foldl (fun a cpu => if fewerF (runqLoad r cpu) (runqLoad r a) then cpu else a) x)) (fun iv _ _ => N - (intOf iv).toNat)
  case atStart => exact ⟨0, rfl, by omega, rfl⟩
  case round =>
   obtain ⟨k, rfl, hk, rfl⟩ := hrel
   by_cases hlt : k < N
   ·have ck := hcell.out k hlt
    have hg2 : L[k]? = some (L.getD k 0) := by rw [List.getD_eq_getElem?_getD, List.getElem?_eq_getElem (by rw [← hN.out]; exact hlt)]; rfl
    have hs : L.take (k + 1) = L.take k ++ [L.getD k 0] := by rw [List.take_add_one, hg2]; rfl
    obtain ⟨y, hy⟩ : ∃ y, y = L.getD k 0 := ⟨_, rfl⟩
    rw [← hy] at ck hs;clear hg2;replace hs := Hd hs;replace hy := Hd hy
    obtain ⟨z, hz⟩ : ∃ z, z = (L.take k).foldl (fun a cpu => if fewerF (runqLoad r cpu) (runqLoad r a) then cpu else a) x := ⟨_, rfl⟩
    rw [← hz];replace hz := Hd hz;have U := Hd (rload_any w1 HR.out y);have V := Hd (rload_any w1 HR.out z)
    have W := Hd (fewer_any (runqLoad r y) (runqLoad r z) w1)
    obtain ⟨bb, hbb⟩ : ∃ bb, bb = fewerF (runqLoad r y) (runqLoad r z) := ⟨_, rfl⟩
    rw [← hbb] at W;replace hbb := Hd hbb
    cases bb
    all_goals
     go_wp2_with fail;refine U.out.mono ?_;rintro e w1 ⟨rfl, rfl⟩;go_wp2_with fail;refine V.out.mono ?_;rintro e w1 ⟨rfl, rfl⟩;go_wp2_with fail;refine W.out.mono ?_;rintro e w1 ⟨rfl, rfl⟩;go_wp2
     go_round
     case rel => exact ⟨k + 1, by go_num, hlt, by rw [hs.out, List.foldl_append, ← hz.out]; simp only [List.foldl_cons, List.foldl_nil, ← hbb.out]; rfl⟩
     case measure => simp [intOf]; omega
   ·have : k = N := by omega
    subst this;go_wp2;go_returns
    have e : L.take k = L := by rw [hN.out]; exact List.take_length
    rw [e]
    exact ⟨rfl, hb.out⟩
theorem ridle_any (w : World) (hT : Tab w) {r : Runq} (h : RunqAt w F p r) (m : Nat) (hm : m < top64) : Calls prog 248 #[.pointer (some ⟨p, 0, none⟩), .int .u64 m] w fun e w' => e = .returned (.tuple #[.int .i64 (runqBest r fewerF m).1, .int .i64 (runqBest r fewerF m).2]) ∧ Below w.heap.size w w' := by
 have A := Hd (rbest_idle w hT h m hm);clear h hT;generalize runqBest r fewerF m = u at *
 go_enter func248, ntmps248
 go_wp2_with fail;refine A.out.mono ?_;rintro e w1 ⟨rfl, hb⟩;replace hb := Hd hb;go_wp2;go_returns
 exact ⟨rfl, hb.out⟩
end Go.Proofs.YtiocbpabbjgkhaaGreatDoor
