/- Contracts of Clip and Read of layer 26. Condition: a slice of bytes. -/
import Derived.Test.YtpefmgmhclbcbaaWireI
import Derived.Deep.RegionLaw
namespace Go.Proofs.Ytpefmgmhclbcbaa.WireM
open Go.RowKit Go.Proofs.Ytpefmgmhclbcbaa.Frame Go.Proofs.Ytpefmgmhclbcbaa.WireA Go.Proofs.Ytpefmgmhclbcbaa.WireB Go.Proofs.Ytpefmgmhclbcbaa.WireC Go.Proofs.Ytpefmgmhclbcbaa.WireD Go.Proofs.Ytpefmgmhclbcbaa.WireE Go.Proofs.Ytpefmgmhclbcbaa.WireF Go.Proofs.Ytpefmgmhclbcbaa.WireG Go.Proofs.Ytpefmgmhclbcbaa.WireH Go.Proofs.Ytpefmgmhclbcbaa.WireI
set_option linter.unusedVariables false
set_option linter.unusedSimpArgs false
theorem info40 : (Try.prog.info? 40).map (fun i => (i.zero, i.size, i.bytes)) = some (some (.agg #[.int .i64 0, .int .i64 0, .int .i64 0, .int .u64 0, .int .i64 0]), 5, 40) := by kernel_rfl
def cellsE (e : EvI) : List Value := [.int .i64 e.k, .int .i64 e.cpu, .int .i64 e.id, .int .u64 e.mask, .int .i64 e.n]
def flatE : List EvI → List Value
  | [] => []
  | e :: t => cellsE e ++ flatE t
theorem flatE_len (l : List EvI) : (flatE l).length = l.length * 5 := by
  induction l with
  | nil => rfl
  | cons e t ih => simp [flatE, cellsE, ih]; omega
theorem flatE_snoc (l : List EvI) (e : EvI) : flatE (l ++ [e]) = flatE l ++ cellsE e := by
  induction l with
  | nil => simp [flatE]
  | cons a t ih => simp [flatE, ih]
theorem flatE_get : ∀ (l : List EvI) (i : Nat) (e : EvI), l[i]? = some e → ∀ (j : Nat) (v : Value), (cellsE e)[j]? = some v → (flatE l)[i * 5 + j]? = some v
  | [], i, e, h, _, _, _ => by simp at h
  | a :: t, 0, e, h, j, v, hv => by
    simp at h
    subst h
    have hj : j < (cellsE a).length := (List.getElem?_eq_some_iff.1 hv).1
    simp only [flatE, Nat.zero_mul, Nat.zero_add]
    rw [List.getElem?_append_left hj]
    exact hv
  | a :: t, i + 1, e, h, j, v, hv => by
    simp only [flatE]
    rw [List.getElem?_append_right (by simp [cellsE]; omega)]
    have : (i + 1) * 5 + j - (cellsE a).length = i * 5 + j := by simp [cellsE]; omega
    rw [this]
    exact flatE_get t i e (by simpa using h) j v hv
/-- A slice of events of the call's own. -/
def OwnE (B : Nat) (w : World) (v : Value) (l : List EvI) : Prop := w.ownsRow B 40 5 v l.length (flatE l)
theorem OwnE.at {B : Nat} {w : World} {v : Value} {l : List EvI} (h : OwnE B w v l) : ∃ a cap, v = .slice a l.length cap ∧ EvsAt w.heap.size w a cap l ∧ cap ≤ maxLen := by
  rcases h with ⟨h0, ⟨rfl, h1⟩ | ⟨g, cap, cur, rfl, hb, hc, hcap, hm, hs, ht⟩⟩
  · have : l = [] := List.eq_nil_of_length_eq_zero h1
    subst this
    exact ⟨none, 0, rfl, ⟨Nat.le_refl _, fun h => absurd rfl h⟩, Nat.zero_le _⟩
  · have hown : w.ownsRow B 40 5 (.slice (some ⟨g, 0, none⟩) l.length cap) l.length (flatE l) := ⟨h0, .inr ⟨g, cap, cur, rfl, hb, hc, hcap, hm, hs, ht⟩⟩
    refine ⟨_, cap, rfl, ⟨hcap, fun _ => ⟨g, 0, rfl, (Array.getElem?_eq_some_iff.1 hc).1, fun i e hx => ?_⟩⟩, hm⟩
    have hi : i < l.length := (List.getElem?_eq_some_iff.1 hx).1
    have r : ∀ j v, (cellsE e)[j]? = some v → w.cell? ⟨g, 0 + i * 5 + j, none⟩ = some v := fun j v hv => by
      have hj : j < 5 := by have := (List.getElem?_eq_some_iff.1 hv).1; simpa [cellsE] using this
      rw [Nat.zero_add, hown.cellAt (i * 5 + j) (by omega)]
      exact flatE_get l i e hx j v hv
    exact ⟨r 0 _ rfl, r 1 _ rfl, r 2 _ rfl, r 3 _ rfl, r 4 _ rfl⟩
theorem ownE_below {B : Nat} {w w' : World} {v : Value} {l : List EvI} (h : OwnE B w v l) (hb : Below w.heap.size w w') : OwnE B w' v l := by
  rcases h with ⟨h0, h1 | ⟨g, cap, cur, rfl, hg, hcc, hcap, hm, hs, ht⟩⟩
  · exact ⟨h0, .inl h1⟩
  · exact ⟨h0, .inr ⟨g, cap, cur, rfl, hg, (hb.block g (Array.getElem?_eq_some_iff.1 hcc).1).trans hcc, hcap, hm, hs, ht⟩⟩
theorem ownE_snoc {B : Nat} {w : World} {v : Value} {l : List EvI} {e : EvI} (h : w.ownsRow B 40 5 v (l.length + 1) (flatE l ++ cellsE e)) : OwnE B w v (l ++ [e]) := by
  unfold OwnE
  rw [List.length_append, flatE_snoc]
  exact h
theorem belowE_grown {B : Nat} {a w w' : World} {v : Value} {l : List EvI} (h : Below B a w) (hown : OwnE B w v l) (hg : w.grownBy w' v.ownBlock) (hB : B ≤ w.heap.size) : Below B a w' :=
  ⟨hg.os.trans h.os, hg.tape.trans h.tape, hg.output.trans h.output, Nat.le_trans h.size hg.size, fun i hi => (hg.block i (by omega) (fun e => by
    have := World.ownsRow.lt hown i e.symm
    omega)).trans (h.block i hi)⟩
theorem cellsE_one (e : EvI) : ∀ u ∈ cellsE e, u.oneCell' = true := by
  intro u hu
  simp [cellsE] at hu
  rcases hu with rfl | rfl | rfl | rfl | rfl <;> rfl
theorem new_cells (w : World) (o : Obj) (e : EvI) : ∀ j u, (cellsE e)[j]? = some u → ((w.alloc o).alloc (.cells #[.int .i64 e.k, .int .i64 e.cpu, .int .i64 e.id, .int .u64 e.mask, .int .i64 e.n] 40)).drew.cell? ((⟨w.heap.size + 1, 0, none⟩ : Addr).add j) = some u := by
  intro j u hj
  rw [add_plain, Nat.zero_add]
  have h := World.cell?_alloc_new (w.alloc o) #[.int .i64 e.k, .int .i64 e.cpu, .int .i64 e.id, .int .u64 e.mask, .int .i64 e.n] 40 j
  rw [World.size_alloc] at h
  refine Eq.trans h ?_
  rw [← Array.getElem?_toList]
  exact hj
theorem bytes_below {H : Nat} {w wr w4 : World} {a : Option Addr} {cap : Nat} {l : List Int} (h : BytesAt H wr a cap l) (h1 : Below H w wr) (h2 : Below H w w4) : BytesAt H w4 a cap l :=
  ⟨h.1, h.2.1, fun hn => by
    obtain ⟨b, off, e, hb, hall⟩ := h.2.2 hn
    exact ⟨b, off, e, hb, fun i x hx => ((h2.cell (p := ⟨b, _, none⟩) hb).trans (h1.cell (p := ⟨b, _, none⟩) hb).symm).trans (hall i x hx)⟩⟩
theorem isB_nil : IsB [] := fun b hb => by cases hb
theorem clip_any (a : Option Addr) (n cap : Nat) (h : n ≤ cap) (hm : cap ≤ maxLen) (w : World) : Calls Try.prog 66 #[.slice a n cap] w fun e w' => e = .returned (.slice a n n) ∧ w = w' := by
  unfold maxLen at hm
  have h1 : (n : Int) ≤ cap := by omega
  go_enter Try.func66, Try.ntmps66
  go_wp2
  go_returns
  exact ⟨rfl, rfl⟩
def evG (L : List Int) : EvI := ⟨(s2 L).1, (get L).2 0, (get L).2 1, u64 ((get L).2 2), (get L).2 3⟩
theorem s64_u64 {x : Int} (h : In64 x) : s64 (u64 x) = x := by
  unfold In64 at h
  unfold s64 u64 wrap64
  rw [IntKind.wrap_u64]
  omega
theorem u64_bd (x : Int) : 0 ≤ u64 x ∧ u64 x ≤ 18446744073709551615 := by
  unfold u64
  rw [IntKind.wrap_u64]
  omega
theorem whichN_congr {f g : Nat → Int} : ∀ m, (∀ i, i < m → f i = g i) → whichN f m = whichN g m
  | 0, _ => rfl
  | m + 1, h => by
    show whichN f m + (if f m = 0 then 0 else pw m) = whichN g m + (if g m = 0 then 0 else pw m)
    rw [whichN_congr m (fun i hi => h i (by omega)), h m (by omega)]
theorem bodyN_congr {f g : Nat → Int} : ∀ m, (∀ i, i < m → f i = g i) → bodyN f m = bodyN g m
  | 0, _ => rfl
  | m + 1, h => by
    show bodyN f m ++ numL (f m) = bodyN g m ++ numL (g m)
    rw [bodyN_congr m (fun i hi => h i (by omega)), h m (by omega)]
/-- What is got is an event, and its bytes stand ahead. -/
theorem got_back (L : List Int) (hb : IsB L) (h : (get L).1.why = 0) : (evG L).ok ∧ L = putE (evG L) ++ (get L).1.l ∧ putE (evG L) ≠ [] ∧ (evG L).val = evN (s2 L).1 (get L).2 := by
  obtain ⟨h1, h2, h3, h4⟩ := put_get L hb h
  have e : putE (evG L) = putL (s2 L).1 (get L).2 := by
    unfold putE putL evG
    have hc : ∀ i, i < 4 → nsOf ((get L).2 0) ((get L).2 1) (u64 ((get L).2 2)) ((get L).2 3) i = (get L).2 i := by
      intro i hi
      rcases (by omega : i = 0 ∨ i = 1 ∨ i = 2 ∨ i = 3) with rfl | rfl | rfl | rfl
      · rfl
      · rfl
      · exact s64_u64 (h3 2 (by omega))
      · rfl
    simp only [whichN_congr 4 hc, bodyN_congr 4 hc]
  exact ⟨⟨h3 0 (by omega), h3 1 (by omega), u64_bd _, h3 3 (by omega)⟩, by rw [e]; exact h4, by rw [e]; exact put_ne _ ⟨h1, h2⟩, rfl⟩
def lenOf : Value → Nat
  | .slice _ n _ => n
  | _ => 0
def ReadR (w : World) (l : List Int) (e : Ending) (w' : World) : Prop :=
  ((∃ why : Int, why ≠ 0 ∧ e = .returned (.tuple #[.slice none 0 0, .int .i64 why])) ∨
   (∃ (a : Option Addr) (es : List EvI), e = .returned (.tuple #[.slice a es.length es.length, .int .i64 0]) ∧ EvsAt w'.heap.size w' a es.length es ∧ es.length ≤ 600 ∧ (∀ x ∈ es, x.ok) ∧ allL es = l)) ∧ Below w.heap.size w w'
set_option maxRecDepth 100000 in
set_option maxHeartbeats 8000000 in
theorem read_any (w : World) (a : Option Addr) (cap : Nat) (l : List Int) (h : BytesAt w.heap.size w a cap l) (hb : IsB l) : Calls Try.prog 35 #[.slice a l.length cap] w (ReadR w l) := by
  have H0 := Lib.hid h
  have HB := Lib.hid hb
  clear h hb
  go_enter Try.func35, Try.ntmps35
  go_wp2_with fail
  go_loopw [0, 4] (fun b v wr => ∃ (a2 : Option Addr) (cap2 : Nat) (L : List Int) (es : List EvI), Hid (allL es ++ L = l) ∧ es.length ≤ 600 ∧ Hid (∀ x ∈ es, x.ok) ∧ b = .slice a2 L.length cap2 ∧ BytesAt w.heap.size wr a2 cap2 L ∧ IsB L ∧ OwnE w.heap.size wr v es ∧ Below w.heap.size w wr) (fun b _ _ => lenOf b)
  case atStart => exact ⟨a, cap, l, [], Lib.hid rfl, by simp, Lib.hid (by intro x hx; cases hx), rfl, H0.out, HB.out, World.ownsRow_nil _ _ _ _, Below.refl _ _⟩
  case round =>
    obtain ⟨a2, cap2, L, es, HL, hes, HOK, rfl, hA, hI, hO, hW⟩ := hrel
    have HA := Lib.hid hA
    have HI := Lib.hid hI
    have HO := Lib.hid hO
    have HW := Lib.hid hW
    have hz := hW.size
    obtain ⟨av, cv, rfl, hE, hcv⟩ := hO.at
    have HE := Lib.hid hE
    have hcap := hA.1
    have hmax := hA.2.1
    unfold maxLen at hmax
    clear hA hI hO hW hE H0 HB
    by_cases hL : L = []
    · subst hL
      have hle := HE.out.1
      go_wp2_with fail
      refine (clip_any av es.length cv hle hcv _).mono ?_
      rintro e w2 ⟨rfl, rfl⟩
      go_wp2
      go_returns
      exact ⟨.inr ⟨av, es, rfl, ⟨Nat.le_refl _, fun hn => by obtain ⟨b, off, e, hb, hall⟩ := HE.out.2 hn; exact ⟨b, off, e, hb, hall⟩⟩, hes, HOK.out, by simpa using HL.out⟩, HW.out⟩
    · have hpos : 0 < L.length := List.length_pos_iff.2 hL
      by_cases h6 : es.length = 600
      · have h6b : ((es.length : Int) == 600) = true := beq_iff_eq.2 (by omega)
        clear h6 hL
        go_wp2
        go_returns
        exact ⟨.inl ⟨15, by decide, rfl⟩, HW.out⟩
      · have h6b : ((es.length : Int) == 600) = false := by simpa using (by omega : ¬ (es.length : Int) = 600)
        have HL0 := Lib.hid hL
        have h600 : es.length < 600 := by omega
        clear h6 hL
        go_wp2_with fail
        refine (get_any wr a2 cap2 L ((HA.out.mono hz)) HI.out).mono ?_
        rintro e w3 ⟨hG, hbg⟩
        have hz3 := hbg.size
        have HWG := Lib.hid (HW.out.trans (hbg.mono hz))
        have HBG := Lib.hid hbg
        clear hbg
        rcases hG with ⟨hbad, rfl⟩ | ⟨hgood, rfl⟩
        · have hbb : ((get L).1.why != 0) = true := by simpa using hbad
          have HBD := Lib.hid hbad
          clear hbad
          generalize (get L).1.why = y at *
          unfold ev0
          go_wp2
          go_returns
          exact ⟨.inl ⟨y, HBD.out, rfl⟩, (HWG.out.alloc (by omega) _)⟩
        · obtain ⟨g1, g2, g3, g4⟩ := got_back L HI.out hgood
          have HG1 := Lib.hid g1
          have HG2 := Lib.hid g2
          have hPl : 0 < (putE (evG L)).length := List.length_pos_iff.2 g3
          have hLl : L.length = (putE (evG L)).length + (get L).1.l.length := by have := congrArg List.length g2; simpa using this
          have hidx : ((L.length : Int) - ((get L).1.l.length : Int)) = ((putE (evG L)).length : Int) := by omega
          rw [← g4, hidx]
          have HIR : Hid (IsB (get L).1.l) := Lib.hid (by have := HI.out; rw [g2] at this; exact isB_of_append this)
          clear g1 g2 g3 g4 hidx hgood
          generalize (get L).1.l = R at *
          generalize evG L = ev at *
          unfold EvI.val
          generalize hpn : (putE ev).length = pn at *
          have HPN := Lib.hid hpn
          clear hpn
          obtain ⟨b2, o2, rfl, hb2, hall2⟩ := HA.out.2.2 HL0.out
          clear hall2
          have hi1 : (pn : Int) ≤ (pn : Int) + (R.length : Int) := by omega
          go_wp2_with fail
          have HD : Hid (BytesAt w.heap.size wr (some ⟨b2, o2 + pn, none⟩) (cap2 - pn) R) := Lib.hid (by
            have := HA.out.drop pn (by omega)
            have e : L.drop pn = R := by rw [HG2.out]; exact List.drop_left' HPN.out
            rwa [e] at this)
          have HLN : Hid (allL (es ++ [ev]) ++ R = l) := Lib.hid (by rw [allL_snoc, List.append_assoc, ← HG2.out]; exact HL.out)
          have HOKN : Hid (∀ x ∈ es ++ [ev], x.ok) := Lib.hid (fun x hx => by
            rcases List.mem_append.1 hx with h | h
            · exact HOK.out x h
            · rw [List.mem_singleton.1 h]; exact HG1.out)
          by_cases hc : cap2 = pn
          · have hR : R = [] := List.eq_nil_of_length_eq_zero (by omega)
            subst hR
            subst hc
            refine wp_region_held_drew (S := fun w' => Below w.heap.size w w') (by kernel_rfl) ((HWG.out.alloc (by omega) _).drew) (fun hHeld => ?_)
            refine wpAnyH_take (i := 0) (oi := ?_) (v := ?_) ?_ (by kernel_rfl) (by kernel_rfl) (by kernel_rfl) ?_ (Or.inl ⟨?_, ?_⟩) hHeld ?_
            rotate_left 2
            · simp only [List.getElem?_toArray, List.getElem?_cons_zero, List.getElem?_cons_succ]; rfl
            · exact fun _ _ _ h => h
            · rfl
            · intro w' hSw; (try dsimp only at hSw); go_simp; (try with_reducible rfl)
            (try simp only [Act.put, List.setIfInBounds_toArray, List.set_cons_zero, List.set_cons_succ])
            refine wpAnyH_take (i := 4) (oi := ?_) (v := ?_) ?_ (by kernel_rfl) (by kernel_rfl) (by kernel_rfl) ?_ (Or.inl ⟨?_, ?_⟩) hHeld ?_
            rotate_left 2
            · simp only [List.getElem?_toArray, List.getElem?_cons_zero, List.getElem?_cons_succ]; rfl
            · exact fun _ _ _ h => h
            · rfl
            · intro w' hSw; (try dsimp only at hSw); go_simp; (try with_reducible rfl)
            (try simp only [Act.put, List.setIfInBounds_toArray, List.set_cons_zero, List.set_cons_succ])
            refine wpAnyH_take (i := 5) (oi := ?_) (v := ?_) ?_ (by kernel_rfl) (by kernel_rfl) (by kernel_rfl) ?_ (Or.inl ⟨?_, ?_⟩) hHeld ?_
            rotate_left 2
            · simp only [List.getElem?_toArray, List.getElem?_cons_zero, List.getElem?_cons_succ]; rfl
            · exact fun _ _ _ h => h
            · rfl
            · intro w' hSw; (try dsimp only at hSw); go_simp; (try with_reducible rfl)
            (try simp only [Act.put, List.setIfInBounds_toArray, List.set_cons_zero, List.set_cons_succ])
            refine wpAnyH_take (i := 6) (oi := ?_) (v := ?_) ?_ (by kernel_rfl) (by kernel_rfl) (by kernel_rfl) ?_ (Or.inl ⟨?_, ?_⟩) hHeld ?_
            rotate_left 2
            · simp only [List.getElem?_toArray, List.getElem?_cons_zero, List.getElem?_cons_succ]; rfl
            · exact fun _ _ _ h => h
            · rfl
            · intro w' hSw; (try dsimp only at hSw); go_simp; (try with_reducible rfl)
            (try simp only [Act.put, List.setIfInBounds_toArray, List.set_cons_zero, List.set_cons_succ])
            refine wpAnyH_ready (rs := [1]) (by kernel_rfl) (by simp) ?_
            refine AllReadyH.cons (o := ?_) ?_ (fun K hK => ?_) AllReadyH.nil
            rotate_left 1
            · simp only [List.getElem?_toArray, List.getElem?_cons_zero, List.getElem?_cons_succ]; rfl
            go_simp
            refine hK.out _ _ hHeld (fun hHeld => ?_)
            clear hK K
            (try simp only [Act.put, List.setIfInBounds_toArray, List.set_cons_zero, List.set_cons_succ])
            refine wpAnyH_ready (rs := [2]) (by kernel_rfl) (by simp) ?_
            refine AllReadyH.cons (o := ?_) ?_ (fun K hK => ?_) AllReadyH.nil
            rotate_left 1
            · simp only [List.getElem?_toArray, List.getElem?_cons_zero, List.getElem?_cons_succ]; rfl
            go_simp
            refine hK.out _ _ (hHeld.alloc (by simp; omega) _) (fun hHeld => ?_)
            clear hK K
            (try simp only [Act.put, List.setIfInBounds_toArray, List.set_cons_zero, List.set_cons_succ])
            have HCU : Hid (Below wr.heap.size wr (((w3.alloc (.cells #[.int .i64 ev.k, .int .i64 ev.cpu, .int .i64 ev.id, .int .u64 ev.mask, .int .i64 ev.n] 40)).drew).alloc (.cells #[.int .i64 ev.k, .int .i64 ev.cpu, .int .i64 ev.id, .int .u64 ev.mask, .int .i64 ev.n] 40))) := Lib.hid (((HBG.out.alloc hz3 (.cells #[.int .i64 ev.k, .int .i64 ev.cpu, .int .i64 ev.id, .int .u64 ev.mask, .int .i64 ev.n] 40)).drew).alloc (by simp; omega) (.cells #[.int .i64 ev.k, .int .i64 ev.cpu, .int .i64 ev.id, .int .u64 ev.mask, .int .i64 ev.n] 40))
            have HCW : Hid (Below w.heap.size w (((w3.alloc (.cells #[.int .i64 ev.k, .int .i64 ev.cpu, .int .i64 ev.id, .int .u64 ev.mask, .int .i64 ev.n] 40)).drew).alloc (.cells #[.int .i64 ev.k, .int .i64 ev.cpu, .int .i64 ev.id, .int .u64 ev.mask, .int .i64 ev.n] 40))) := Lib.hid (hHeld)
            refine wpAnyH_ready (rs := [3]) (by kernel_rfl) (by simp) ?_
            refine AllReadyH.cons (o := ?_) ?_ (fun K hK => ?_) AllReadyH.nil
            rotate_left 1
            · simp only [List.getElem?_toArray, List.getElem?_cons_zero, List.getElem?_cons_succ]; rfl
            rw [if_pos (by rfl)]
            obtain ⟨i0, hi0, hz0, hz1, hz4⟩ := info_parts info40
            refine wp_append_own _ (.tmp 23) (.tmp 25) 58 rfl w.heap.size 40 i0 _ 5 40 Try.underlying58 hi0 hz0 hz1 hz4 rfl (by decide) _ es.length (flatE es) rfl (ownE_below HO.out HCU.out) _ 1 1 (cellsE ev) rfl rfl (new_cells w3 _ ev) (cellsE_one ev) (by unfold maxLen; omega) (by omega) (by simp; omega) (fun v4 w4 hO4 hg4 _ => ?_)
            have HO4 : Hid (OwnE w.heap.size w4 v4 (es ++ [ev])) := Lib.hid (ownE_snoc hO4)
            have HB4 : Hid (Below w.heap.size w w4) := Lib.hid (belowE_grown HCW.out (ownE_below HO.out HCU.out) hg4 (by simp; omega))
            have HA4 : Hid (Below wr.heap.size wr w4 ∨ True) := Lib.hid (.inr trivial)
            clear hO4 hg4
            refine hK.out _ _ HB4.out (fun hHeld => ?_)
            clear hK K
            (try simp only [Act.put, List.setIfInBounds_toArray, List.set_cons_zero, List.set_cons_succ])
            refine wpAnyH_take (i := 7) (oi := ?_) (v := ?_) ?_ (by kernel_rfl) (by kernel_rfl) (by kernel_rfl) ?_ (Or.inl ⟨?_, ?_⟩) hHeld ?_
            rotate_left 2
            · simp only [List.getElem?_toArray, List.getElem?_cons_zero, List.getElem?_cons_succ]; rfl
            · exact fun _ _ _ h => h
            · rfl
            · intro w' hSw; (try dsimp only at hSw); go_simp; (try with_reducible rfl)
            (try simp only [Act.put, List.setIfInBounds_toArray, List.set_cons_zero, List.set_cons_succ])
            refine wpAnyH_take (i := 8) (oi := ?_) (v := ?_) ?_ (by kernel_rfl) (by kernel_rfl) (by kernel_rfl) ?_ (Or.inl ⟨?_, ?_⟩) hHeld ?_
            rotate_left 2
            · simp only [List.getElem?_toArray, List.getElem?_cons_zero, List.getElem?_cons_succ]; rfl
            · exact fun _ _ _ h => h
            · rfl
            · intro w' hSw; (try dsimp only at hSw); go_simp; (try with_reducible rfl)
            (try simp only [Act.put, List.setIfInBounds_toArray, List.set_cons_zero, List.set_cons_succ])
            refine wpAnyH_done (by kernel_rfl) ?_ _
            clear hHeld
            go_wp2
            go_roundw
            case rel => exact ⟨_, _, [], es ++ [ev], HLN, by rw [List.length_append]; simp; omega, HOKN, rfl, BytesAt.nil (by unfold maxLen; omega), isB_nil, HO4.out, HB4.out⟩
            case measure => show 0 < L.length; omega
          · skip
            refine wp_region_held_drew (S := fun w' => Below w.heap.size w w') (by kernel_rfl) ((HWG.out.alloc (by omega) _).drew) (fun hHeld => ?_)
            refine wpAnyH_take (i := 0) (oi := ?_) (v := ?_) ?_ (by kernel_rfl) (by kernel_rfl) (by kernel_rfl) ?_ (Or.inl ⟨?_, ?_⟩) hHeld ?_
            rotate_left 2
            · simp only [List.getElem?_toArray, List.getElem?_cons_zero, List.getElem?_cons_succ]; rfl
            · exact fun _ _ _ h => h
            · rfl
            · intro w' hSw; (try dsimp only at hSw); go_simp; (try with_reducible rfl)
            (try simp only [Act.put, List.setIfInBounds_toArray, List.set_cons_zero, List.set_cons_succ])
            refine wpAnyH_take (i := 4) (oi := ?_) (v := ?_) ?_ (by kernel_rfl) (by kernel_rfl) (by kernel_rfl) ?_ (Or.inl ⟨?_, ?_⟩) hHeld ?_
            rotate_left 2
            · simp only [List.getElem?_toArray, List.getElem?_cons_zero, List.getElem?_cons_succ]; rfl
            · exact fun _ _ _ h => h
            · rfl
            · intro w' hSw; (try dsimp only at hSw); go_simp; (try with_reducible rfl)
            (try simp only [Act.put, List.setIfInBounds_toArray, List.set_cons_zero, List.set_cons_succ])
            refine wpAnyH_take (i := 5) (oi := ?_) (v := ?_) ?_ (by kernel_rfl) (by kernel_rfl) (by kernel_rfl) ?_ (Or.inl ⟨?_, ?_⟩) hHeld ?_
            rotate_left 2
            · simp only [List.getElem?_toArray, List.getElem?_cons_zero, List.getElem?_cons_succ]; rfl
            · exact fun _ _ _ h => h
            · rfl
            · intro w' hSw; (try dsimp only at hSw); go_simp; (try with_reducible rfl)
            (try simp only [Act.put, List.setIfInBounds_toArray, List.set_cons_zero, List.set_cons_succ])
            refine wpAnyH_take (i := 6) (oi := ?_) (v := ?_) ?_ (by kernel_rfl) (by kernel_rfl) (by kernel_rfl) ?_ (Or.inl ⟨?_, ?_⟩) hHeld ?_
            rotate_left 2
            · simp only [List.getElem?_toArray, List.getElem?_cons_zero, List.getElem?_cons_succ]; rfl
            · exact fun _ _ _ h => h
            · rfl
            · intro w' hSw; (try dsimp only at hSw); go_simp; (try with_reducible rfl)
            (try simp only [Act.put, List.setIfInBounds_toArray, List.set_cons_zero, List.set_cons_succ])
            refine wpAnyH_ready (rs := [1]) (by kernel_rfl) (by simp) ?_
            refine AllReadyH.cons (o := ?_) ?_ (fun K hK => ?_) AllReadyH.nil
            rotate_left 1
            · simp only [List.getElem?_toArray, List.getElem?_cons_zero, List.getElem?_cons_succ]; rfl
            go_simp
            refine hK.out _ _ hHeld (fun hHeld => ?_)
            clear hK K
            (try simp only [Act.put, List.setIfInBounds_toArray, List.set_cons_zero, List.set_cons_succ])
            refine wpAnyH_ready (rs := [2]) (by kernel_rfl) (by simp) ?_
            refine AllReadyH.cons (o := ?_) ?_ (fun K hK => ?_) AllReadyH.nil
            rotate_left 1
            · simp only [List.getElem?_toArray, List.getElem?_cons_zero, List.getElem?_cons_succ]; rfl
            go_simp
            refine hK.out _ _ (hHeld.alloc (by simp; omega) _) (fun hHeld => ?_)
            clear hK K
            (try simp only [Act.put, List.setIfInBounds_toArray, List.set_cons_zero, List.set_cons_succ])
            have HCU : Hid (Below wr.heap.size wr (((w3.alloc (.cells #[.int .i64 ev.k, .int .i64 ev.cpu, .int .i64 ev.id, .int .u64 ev.mask, .int .i64 ev.n] 40)).drew).alloc (.cells #[.int .i64 ev.k, .int .i64 ev.cpu, .int .i64 ev.id, .int .u64 ev.mask, .int .i64 ev.n] 40))) := Lib.hid (((HBG.out.alloc hz3 (.cells #[.int .i64 ev.k, .int .i64 ev.cpu, .int .i64 ev.id, .int .u64 ev.mask, .int .i64 ev.n] 40)).drew).alloc (by simp; omega) (.cells #[.int .i64 ev.k, .int .i64 ev.cpu, .int .i64 ev.id, .int .u64 ev.mask, .int .i64 ev.n] 40))
            have HCW : Hid (Below w.heap.size w (((w3.alloc (.cells #[.int .i64 ev.k, .int .i64 ev.cpu, .int .i64 ev.id, .int .u64 ev.mask, .int .i64 ev.n] 40)).drew).alloc (.cells #[.int .i64 ev.k, .int .i64 ev.cpu, .int .i64 ev.id, .int .u64 ev.mask, .int .i64 ev.n] 40))) := Lib.hid (hHeld)
            refine wpAnyH_ready (rs := [3]) (by kernel_rfl) (by simp) ?_
            refine AllReadyH.cons (o := ?_) ?_ (fun K hK => ?_) AllReadyH.nil
            rotate_left 1
            · simp only [List.getElem?_toArray, List.getElem?_cons_zero, List.getElem?_cons_succ]; rfl
            rw [if_pos (by rfl)]
            obtain ⟨i0, hi0, hz0, hz1, hz4⟩ := info_parts info40
            refine wp_append_own _ (.tmp 23) (.tmp 25) 58 rfl w.heap.size 40 i0 _ 5 40 Try.underlying58 hi0 hz0 hz1 hz4 rfl (by decide) _ es.length (flatE es) rfl (ownE_below HO.out HCU.out) _ 1 1 (cellsE ev) rfl rfl (new_cells w3 _ ev) (cellsE_one ev) (by unfold maxLen; omega) (by omega) (by simp; omega) (fun v4 w4 hO4 hg4 _ => ?_)
            have HO4 : Hid (OwnE w.heap.size w4 v4 (es ++ [ev])) := Lib.hid (ownE_snoc hO4)
            have HB4 : Hid (Below w.heap.size w w4) := Lib.hid (belowE_grown HCW.out (ownE_below HO.out HCU.out) hg4 (by simp; omega))
            have HA4 : Hid (Below wr.heap.size wr w4 ∨ True) := Lib.hid (.inr trivial)
            clear hO4 hg4
            refine hK.out _ _ HB4.out (fun hHeld => ?_)
            clear hK K
            (try simp only [Act.put, List.setIfInBounds_toArray, List.set_cons_zero, List.set_cons_succ])
            refine wpAnyH_take (i := 7) (oi := ?_) (v := ?_) ?_ (by kernel_rfl) (by kernel_rfl) (by kernel_rfl) ?_ (Or.inl ⟨?_, ?_⟩) hHeld ?_
            rotate_left 2
            · simp only [List.getElem?_toArray, List.getElem?_cons_zero, List.getElem?_cons_succ]; rfl
            · exact fun _ _ _ h => h
            · rfl
            · intro w' hSw; (try dsimp only at hSw); go_simp; (try with_reducible rfl)
            (try simp only [Act.put, List.setIfInBounds_toArray, List.set_cons_zero, List.set_cons_succ])
            refine wpAnyH_take (i := 8) (oi := ?_) (v := ?_) ?_ (by kernel_rfl) (by kernel_rfl) (by kernel_rfl) ?_ (Or.inl ⟨?_, ?_⟩) hHeld ?_
            rotate_left 2
            · simp only [List.getElem?_toArray, List.getElem?_cons_zero, List.getElem?_cons_succ]; rfl
            · exact fun _ _ _ h => h
            · rfl
            · intro w' hSw; (try dsimp only at hSw); go_simp; (try with_reducible rfl)
            (try simp only [Act.put, List.setIfInBounds_toArray, List.set_cons_zero, List.set_cons_succ])
            refine wpAnyH_done (by kernel_rfl) ?_ _
            clear hHeld
            go_wp2
            go_roundw
            case rel => exact ⟨_, _, R, es ++ [ev], HLN, by rw [List.length_append]; simp; omega, HOKN, rfl, bytes_below HD.out HW.out HB4.out, HIR.out, HO4.out, HB4.out⟩
            case measure => show R.length < L.length; omega
end Go.Proofs.Ytpefmgmhclbcbaa.WireM
