/- The walk of WirePuts: for any events the law returns true. Condition: the row's own bounds on a slice that came in. -/
import Derived.Test.YtpefmgmhclbcbaaWireK
import Derived.Test.YtpefmgmhclbcbaaOpen
namespace Go.Proofs.Ytpefmgmhclbcbaa.WireL
open Go.RowKit Go.Proofs.Ytpefmgmhclbcbaa.Frame Go.Proofs.Ytpefmgmhclbcbaa.WireA Go.Proofs.Ytpefmgmhclbcbaa.WireB Go.Proofs.Ytpefmgmhclbcbaa.WireC Go.Proofs.Ytpefmgmhclbcbaa.WireD Go.Proofs.Ytpefmgmhclbcbaa.WireE Go.Proofs.Ytpefmgmhclbcbaa.WireF Go.Proofs.Ytpefmgmhclbcbaa.WireG Go.Proofs.Ytpefmgmhclbcbaa.WireH Go.Proofs.Ytpefmgmhclbcbaa.WireI Go.Proofs.Ytpefmgmhclbcbaa.Open
set_option linter.unusedVariables false
set_option linter.unusedSimpArgs false
set_option maxHeartbeats 2000000 in
theorem rall_any (w : World) (a : Option Addr) (cap : Nat) (es : List EvI) (h : EvsAt w.heap.size w a cap es) (hok : ∀ e ∈ es, e.ok) (hlen : es.length ≤ 5000) :
    Calls Try.prog 34 #[.slice a es.length cap] w (Put w (allL es)) := by
  have HE := Lib.hid h
  have OK := Lib.hid hok
  clear h hok
  go_enter Try.func34, Try.ntmps34
  go_wp2_with fail
  go_loopw [3, 4] (fun v c wr => ∃ i : Nat, i ≤ es.length ∧ c = .int .i64 i ∧ OwnB w.heap.size wr v (allL (es.take i)) ∧ Below w.heap.size w wr) (fun _ c _ => es.length - (intOf c).toNat)
  case atStart => exact ⟨0, Nat.zero_le _, rfl, OwnB.nil _ _, Below.refl _ _⟩
  case round =>
    obtain ⟨i, hi, rfl, hO, hB⟩ := hrel
    have HO := Lib.hid hO
    have HB := Lib.hid hB
    have hz := hB.size
    clear hO hB
    by_cases hlt : i < es.length
    · obtain ⟨b, off, rfl, hb, hall⟩ := (HE.out.below HB.out).2 (by intro e; rw [e] at hlt; simp at hlt)
      have hx : es[i]? = some es[i] := List.getElem?_eq_getElem hlt
      obtain ⟨c0, c1, c2, c3, c4⟩ := hall i _ hx
      have OKE := Lib.hid (OK.out es[i] (List.getElem_mem hlt))
      have HT : Hid (allL (es.take (i + 1)) = allL (es.take i) ++ putE es[i]) := Lib.hid (by rw [List.take_succ_eq_append_getElem hlt, allL_snoc])
      have HLN : Hid ((allL (es.take i)).length ≤ 38 * 5000) := Lib.hid (by have := allL_len (es.take i); have h2 : (es.take i).length ≤ i := List.length_take_le _ _; omega)
      have hpl := put_len es[i].k (nsOf es[i].cpu es[i].id es[i].mask es[i].n)
      have HPL : Hid ((putE es[i]).length ≤ 38) := Lib.hid hpl
      clear hall hx hpl
      generalize es[i] = ev at *
      go_wp2_with fail
      refine (WireK.put_any ev OKE.out _).mono ?_
      rintro e w2 ⟨v2, rfl, hO2, hb2⟩
      obtain ⟨a2, cap2, rfl, hA2, hn2⟩ := ownB_at hO2
      have HB2 : Hid (Below wr.heap.size wr w2) := Lib.hid hb2
      have HA2 := Lib.hid hA2
      have HN2 := Lib.hid hn2
      have hz2 := HB2.out.size
      clear hO2 hb2 hA2 hn2
      go_wp2_with (at_builtin; refine append_bytes rfl _ _ rfl w.heap.size _ (allL (es.take i)) rfl (HO.out.below HB2.out) _ _ (putE ev) rfl HA2.out HN2.out ?_ ?_ ?_)
      · have h1 := HLN.out; have h2 := HPL.out; omega
      · omega
      intro v3 w3 hO3 hg3
      have HO3 : Hid (OwnB w.heap.size w3 v3 (allL (es.take (i + 1)))) := Lib.hid (by rw [HT.out]; exact hO3)
      have HB3 := Lib.hid (below_grown (HB.out.trans (HB2.out.mono hz)) (HO.out.below HB2.out) hg3 (by omega))
      clear hO3 hg3
      go_wp2
      go_roundw
      case rel => exact ⟨i + 1, by omega, by go_num, HO3.out, HB3.out⟩
      case measure => simp [intOf]; omega
    · obtain rfl : i = es.length := by omega
      have HT : Hid (allL (es.take es.length) = allL es) := Lib.hid (by rw [List.take_length])
      clear HE
      go_wp2
      go_returns
      exact ⟨_, rfl, by rw [← HT.out]; exact HO.out, HB.out⟩
theorem same_own (w : World) {B1 B2 : Nat} {v1 v2 : Value} (l : List Int) (h1 : OwnB B1 w v1 l) (h2 : OwnB B2 w v2 l) : Calls Try.prog 31 #[v1, v2] w fun e w' => e = .returned (.bool true) ∧ w = w' := by
  obtain ⟨a1, c1, rfl, x1⟩ := h1.at
  obtain ⟨a2, c2, rfl, x2⟩ := h2.at
  exact bytes_same w l x1 x2
set_option maxRecDepth 100000 in
set_option maxHeartbeats 8000000 in
theorem puts_few (W : World) (a : Option Addr) (cap : Nat) (es : List EvI) (h : EvsAt W.heap.size W a cap es) (hok : ∀ e ∈ es, e.ok) (hlen : es.length ≤ 700) :
    Calls Try.prog 9 #[.slice a es.length cap] W fun e W' => e = .returned (.bool true) ∧ Below W.heap.size W W' := by
  have HE := Lib.hid h
  have OK := Lib.hid hok
  clear h hok
  go_enter Try.func9, Try.ntmps9
  go_wp2_with fail
  go_loopw [3] (fun c wr => ∃ i : Nat, i ≤ es.length ∧ c = .int .i64 i ∧ Below W.heap.size W wr) (fun c _ => es.length - (intOf c).toNat)
  case atStart => exact ⟨0, Nat.zero_le _, rfl, Below.refl _ _⟩
  case round =>
    obtain ⟨i, hi, rfl, hB⟩ := hrel
    have hz := hB.size
    have hway : (i < es.length ∧ decide ((i : Int) < 50) = true) ∨ (i < es.length ∧ decide ((i : Int) < 50) = false) ∨ i = es.length := by
      by_cases h1 : i < es.length
      · by_cases h2 : i < 50
        · exact .inl ⟨h1, by simp; omega⟩
        · exact .inr (.inl ⟨h1, by simp; omega⟩)
      · exact .inr (.inr (by omega))
    rcases hway with ⟨hlt, d50⟩ | hout
    · obtain ⟨b, off, rfl, hb, hall⟩ := (HE.out.below hB).2 (by intro e; rw [e] at hlt; simp at hlt)
      have hx : es[i]? = some es[i] := List.getElem?_eq_getElem hlt
      obtain ⟨c0, c1, c2, c3, c4⟩ := hall i _ hx
      have OKE := Lib.hid (OK.out es[i] (List.getElem_mem hlt))
      clear hall hx
      generalize es[i] = ev at *
      go_wp2_with fail
      refine wp_region_held_drew (S := fun w' => w'.cell? ⟨b, off + i * 5, none⟩ = some (.int .i64 ev.k) ∧ w'.cell? ⟨b, off + i * 5 + 1, none⟩ = some (.int .i64 ev.cpu) ∧ w'.cell? ⟨b, off + i * 5 + 2, none⟩ = some (.int .i64 ev.id) ∧ w'.cell? ⟨b, off + i * 5 + 3, none⟩ = some (.int .u64 ev.mask) ∧ w'.cell? ⟨b, off + i * 5 + 4, none⟩ = some (.int .i64 ev.n) ∧ Below W.heap.size W w') (by kernel_rfl) ⟨c0, c1, c2, c3, c4, hB.drew⟩ (fun hHeld => ?_)
      refine wpAnyH_take (i := 0) (oi := ?_) (v := ?_) ?_ (by kernel_rfl) (by kernel_rfl) (by kernel_rfl) ?_ (Or.inl ⟨?_, ?_⟩) hHeld ?_
      rotate_left 2
      · simp only [List.getElem?_toArray, List.getElem?_cons_zero, List.getElem?_cons_succ]; rfl
      · exact fun _ _ _ h => h
      · rfl
      · intro w' hSw; (try dsimp only at hSw); go_simp; (try with_reducible rfl)
      (try simp only [Act.put, List.setIfInBounds_toArray, List.set_cons_zero, List.set_cons_succ])
      refine wpAnyH_take (i := 1) (oi := ?_) (v := ?_) ?_ (by kernel_rfl) (by kernel_rfl) (by kernel_rfl) ?_ (Or.inl ⟨?_, ?_⟩) hHeld ?_
      rotate_left 2
      · simp only [List.getElem?_toArray, List.getElem?_cons_zero, List.getElem?_cons_succ]; rfl
      · exact fun _ _ _ h => h
      · rfl
      · intro w' hSw; (try dsimp only at hSw); go_simp; (try with_reducible rfl)
      (try simp only [Act.put, List.setIfInBounds_toArray, List.set_cons_zero, List.set_cons_succ])
      refine wpAnyH_take (i := 2) (oi := ?_) (v := ?_) ?_ (by kernel_rfl) (by kernel_rfl) (by kernel_rfl) ?_ (Or.inl ⟨?_, ?_⟩) hHeld ?_
      rotate_left 2
      · simp only [List.getElem?_toArray, List.getElem?_cons_zero, List.getElem?_cons_succ]; rfl
      · exact fun _ _ _ h => h
      · rfl
      · intro w' hSw; (try dsimp only at hSw); go_simp; (try with_reducible rfl)
      (try simp only [Act.put, List.setIfInBounds_toArray, List.set_cons_zero, List.set_cons_succ])
      refine wpAnyH_take (i := 3) (oi := ?_) (v := ?_) ?_ (by kernel_rfl) (by kernel_rfl) (by kernel_rfl) ?_ (Or.inl ⟨?_, ?_⟩) hHeld ?_
      rotate_left 2
      · simp only [List.getElem?_toArray, List.getElem?_cons_zero, List.getElem?_cons_succ]; rfl
      · exact fun _ _ _ h => h
      · rfl
      · intro w' hSw; (try dsimp only at hSw); go_simp; (try with_reducible rfl)
      (try simp only [Act.put, List.setIfInBounds_toArray, List.set_cons_zero, List.set_cons_succ])
      refine wpAnyH_take (i := 5) (oi := ?_) (v := ?_) ?_ (by kernel_rfl) (by kernel_rfl) (by kernel_rfl) ?_ (Or.inl ⟨?_, ?_⟩) hHeld ?_
      rotate_left 2
      · simp only [List.getElem?_toArray, List.getElem?_cons_zero, List.getElem?_cons_succ]; rfl
      · exact fun _ _ _ h => h
      · rfl
      · intro w' hSw; (try dsimp only at hSw); go_simp; (try with_reducible rfl)
      (try simp only [Act.put, List.setIfInBounds_toArray, List.set_cons_zero, List.set_cons_succ])
      refine wpAnyH_take (i := 6) (oi := ?_) (v := ?_) ?_ (by kernel_rfl) (by kernel_rfl) (by kernel_rfl) ?_ (Or.inl ⟨?_, ?_⟩) hHeld ?_
      rotate_left 2
      · simp only [List.getElem?_toArray, List.getElem?_cons_zero, List.getElem?_cons_succ]; rfl
      · exact fun _ _ _ h => h
      · rfl
      · intro w' hSw; (try dsimp only at hSw); go_simp; (try with_reducible rfl)
      (try simp only [Act.put, List.setIfInBounds_toArray, List.set_cons_zero, List.set_cons_succ])
      refine wpAnyH_take (i := 7) (oi := ?_) (v := ?_) ?_ (by kernel_rfl) (by kernel_rfl) (by kernel_rfl) ?_ (Or.inl ⟨?_, ?_⟩) hHeld ?_
      rotate_left 2
      · simp only [List.getElem?_toArray, List.getElem?_cons_zero, List.getElem?_cons_succ]; rfl
      · exact fun _ _ _ h => h
      · rfl
      · intro w' hSw; (try dsimp only at hSw); go_simp; (try with_reducible rfl)
      (try simp only [Act.put, List.setIfInBounds_toArray, List.set_cons_zero, List.set_cons_succ])
      refine wpAnyH_take (i := 8) (oi := ?_) (v := ?_) ?_ (by kernel_rfl) (by kernel_rfl) (by kernel_rfl) ?_ (Or.inl ⟨?_, ?_⟩) hHeld ?_
      rotate_left 2
      · simp only [List.getElem?_toArray, List.getElem?_cons_zero, List.getElem?_cons_succ]; rfl
      · exact fun _ _ _ h => h
      · rfl
      · intro w' hSw; (try dsimp only at hSw); go_simp; (try with_reducible rfl)
      (try simp only [Act.put, List.setIfInBounds_toArray, List.set_cons_zero, List.set_cons_succ])
      clear c0 c1 c2 c3 c4 hB
      refine wpAnyH_ready (rs := [4]) (by kernel_rfl) (by simp) ?_
      refine AllReadyH.cons (o := ?_) ?_ (fun K hK => ?_) AllReadyH.nil
      rotate_left 1
      · simp only [List.getElem?_toArray, List.getElem?_cons_zero, List.getElem?_cons_succ]; rfl
      go_simp
      obtain ⟨s0, s1, s2, s3, s4, s5⟩ := hHeld
      refine (put_any ev OKE.out _).mono ?_
      rintro e wa ⟨va, rfl, hOa, hba⟩
      refine hK.out _ _ ⟨(keepcell hba s0), (keepcell hba s1), (keepcell hba s2), (keepcell hba s3), (keepcell hba s4), s5.trans (hba.mono s5.size)⟩ (fun hHeld => ?_)
      clear hK K s0 s1 s2 s3 s4 s5
      (try simp only [Act.put, List.setIfInBounds_toArray, List.set_cons_zero, List.set_cons_succ])
      refine wpAnyH_ready (rs := [9]) (by kernel_rfl) (by simp) ?_
      refine AllReadyH.cons (o := ?_) ?_ (fun K hK => ?_) AllReadyH.nil
      rotate_left 1
      · simp only [List.getElem?_toArray, List.getElem?_cons_zero, List.getElem?_cons_succ]; rfl
      go_simp
      obtain ⟨s0, s1, s2, s3, s4, s5⟩ := hHeld
      refine (WireK.put_any ev OKE.out _).mono ?_
      rintro e wb ⟨vb, rfl, hOb, hbb⟩
      have hOa2 := hOa.below hbb
      refine hK.out _ _ ⟨(keepcell hbb s0), (keepcell hbb s1), (keepcell hbb s2), (keepcell hbb s3), (keepcell hbb s4), s5.trans (hbb.mono s5.size)⟩ (fun hHeld => ?_)
      clear hK K
      (try simp only [Act.put, List.setIfInBounds_toArray, List.set_cons_zero, List.set_cons_succ])
      clear s0 s1 s2 s3 s4 s5
      refine wpAnyH_ready (rs := [10]) (by kernel_rfl) (by simp) ?_
      refine AllReadyH.cons (o := ?_) ?_ (fun K hK => ?_) AllReadyH.nil
      rotate_left 1
      · simp only [List.getElem?_toArray, List.getElem?_cons_zero, List.getElem?_cons_succ]; rfl
      go_simp
      refine (same_own _ (putE ev) hOa2 hOb).mono ?_
      rintro e wc ⟨rfl, rfl⟩
      refine hK.out _ _ hHeld (fun hHeld => ?_)
      clear hK K
      (try simp only [Act.put, List.setIfInBounds_toArray, List.set_cons_zero, List.set_cons_succ])
      refine wpAnyH_take (i := 11) (oi := ?_) (v := ?_) ?_ (by kernel_rfl) (by kernel_rfl) (by kernel_rfl) ?_ (Or.inl ⟨?_, ?_⟩) hHeld ?_
      rotate_left 2
      · simp only [List.getElem?_toArray, List.getElem?_cons_zero, List.getElem?_cons_succ]; rfl
      · exact fun _ _ _ h => h
      · rfl
      · intro w' hSw; (try dsimp only at hSw); go_simp; (try with_reducible rfl)
      (try simp only [Act.put, List.setIfInBounds_toArray, List.set_cons_zero, List.set_cons_succ])
      refine wpAnyH_done (by kernel_rfl) ?_ _
      have HBB := Lib.hid hHeld.2.2.2.2.2
      clear hHeld hOa hOb hOa2 hba hbb
      go_wp2_with fail
      go_roundw
      case rel => exact ⟨i + 1, by omega, by go_num, HBB.out⟩
      case measure => simp [intOf]; omega
    · have HE2 := Lib.hid (HE.out.below hB)
      have HB := Lib.hid hB
      clear hB
      have tail : True := trivial
      rcases hout with ⟨hlt, d50⟩ | rfl
      all_goals
        go_wp2_with fail
        refine (all_any wr a cap es ⟨HE2.out.1, fun hn => by obtain ⟨b, off, e, hb, hall⟩ := HE2.out.2 hn; exact ⟨b, off, e, by omega, hall⟩⟩ OK.out (by omega)).mono ?_
        rintro e w2 ⟨v2, rfl, hO2, hb2⟩
        have HO2 := Lib.hid hO2
        have HB2 := Lib.hid hb2
        have hz2 := hb2.size
        clear hO2 hb2
        go_wp2_with fail
        refine (rall_any w2 a cap es ⟨HE2.out.1, fun hn => by obtain ⟨b, off, e, hb, hall⟩ := (HE2.out.below (HB2.out.mono hz)).2 hn; exact ⟨b, off, e, by omega, hall⟩⟩ OK.out (by omega)).mono ?_
        rintro e w3 ⟨v3, rfl, hO3, hb3⟩
        have HO3 := Lib.hid hO3
        have HB3 := Lib.hid hb3
        have hz3 := hb3.size
        clear hO3 hb3
        go_wp2_with fail
        refine (same_own w3 (allL es) (HO2.out.below HB3.out) HO3.out).mono ?_
        rintro e w4 ⟨rfl, rfl⟩
        go_wp2_with (go_at_call 24; refine (known_ok _).mono ?_; rintro e w5 ⟨rfl, hb5⟩)
        go_returns
        exact ⟨rfl, ((HB.out.trans (HB2.out.mono hz)).trans (HB3.out.mono (by omega))).trans (hb5.mono (by omega))⟩
def evAt (V : Nat → Nat → Value) (i : Nat) : EvI := ⟨numOf (V i 0), numOf (V i 1), numOf (V i 2), numOf (V i 3), numOf (V i 4)⟩
def ks : List FK := [.int .i64, .int .i64, .int .i64, .int .u64, .int .i64]
theorem evs_of {W : World} {a : Option Addr} {len cap : Nat} {V : Nat → Nat → Value} (row : StructRow W a len ks V) (le : len ≤ cap) :
    ((List.range len).map (evAt V)).length = len ∧ EvsAt W.heap.size W a cap ((List.range len).map (evAt V)) ∧ ∀ e ∈ (List.range len).map (evAt V), e.ok := by
  have hl : ((List.range len).map (evAt V)).length = len := by simp
  refine ⟨hl, ⟨by rw [hl]; exact le, fun hn => ?_⟩, fun e he => ?_⟩
  · have hp : 0 < len := by
      rcases Nat.eq_zero_or_pos len with rfl | h
      · simp at hn
      · exact h
    obtain ⟨⟨b, off, sp⟩, rfl⟩ := row.1 hp
    have hsp : sp = none := OpenB.spot_none (W := W) (b := b) (off := off) (row.2 0 hp _ rfl 0 _ rfl).1
    subst hsp
    refine ⟨b, off, rfl, ?_, fun i e hx => ?_⟩
    · have := World.block_lt_of_cell? W _ (row.2 0 hp _ rfl 0 _ rfl).1
      simpa [Addr.add] using this
    · have hi : i < len := by have := (List.getElem?_eq_some_iff.1 hx).1; omega
      obtain rfl : evAt V i = e := by simpa [hi] using hx
      have hr := row.2 i hi _ rfl
      have g : ∀ j, (Addr.add ⟨b, off, none⟩ (i * 5 + j)) = ⟨b, off + i * 5 + j, none⟩ := fun j => by rw [OpenB.add_plain, Nat.add_assoc]
      have r := fun j k hk => (hr j k hk).1
      have e5 : ks.length = 5 := rfl
      simp only [e5, g] at r
      exact ⟨r 0 _ rfl, r 1 _ rfl, r 2 _ rfl, r 3 _ rfl, r 4 _ rfl⟩
  · simp only [List.mem_map, List.mem_range] at he
    obtain ⟨i, hi, rfl⟩ := he
    obtain ⟨ad, had⟩ := row.1 (by omega)
    have hr := row.2 i hi ad had
    exact ⟨in64_of (hr 1 _ rfl).2, in64_of (hr 2 _ rfl).2, u64_of (hr 3 _ rfl).2, in64_of (hr 4 _ rfl).2⟩
theorem puts_walk (W : World) (a : Option Addr) (len cap : Nat) (V : Nat → Nat → Value) (row : StructRow W a len ks V) (le : len ≤ cap) (hbytes : len * 40 ≤ 140737488351232) :
    Calls Try.prog 9 #[.slice a len cap] W fun e W' => e = .returned (.bool true) ∧ Below W.heap.size W W' := by
  by_cases hl : 700 < len
  · clear row
    go_enter Try.func9, Try.ntmps9
    go_wp2_with (go_at_call 24; refine (known_ok _).mono ?_; rintro e w5 ⟨rfl, hb5⟩)
    go_returns
    exact ⟨rfl, hb5⟩
  · obtain ⟨h1, h2, h3⟩ := evs_of row le
    have := puts_few W a cap _ h2 h3 (by omega)
    rwa [h1] at this
end Go.Proofs.Ytpefmgmhclbcbaa.WireL
