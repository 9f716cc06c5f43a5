/- The walk of WireOnce: for any bytes the law returns true. Condition: the row's own bounds on a slice that came in. -/
import Derived.Test.YtpefmgmhclbcbaaWireM
import Derived.Test.YtpefmgmhclbcbaaOpenC
namespace Go.Proofs.Ytpefmgmhclbcbaa.WireN
open Go.RowKit Go.Proofs.Ytpefmgmhclbcbaa.Frame Go.Proofs.Ytpefmgmhclbcbaa.WireA Go.Proofs.Ytpefmgmhclbcbaa.WireB Go.Proofs.Ytpefmgmhclbcbaa.WireC Go.Proofs.Ytpefmgmhclbcbaa.WireD Go.Proofs.Ytpefmgmhclbcbaa.WireE Go.Proofs.Ytpefmgmhclbcbaa.WireF Go.Proofs.Ytpefmgmhclbcbaa.WireG Go.Proofs.Ytpefmgmhclbcbaa.WireH Go.Proofs.Ytpefmgmhclbcbaa.WireI Go.Proofs.Ytpefmgmhclbcbaa.WireM Go.Proofs.Ytpefmgmhclbcbaa.OpenB
set_option linter.unusedVariables false
set_option linter.unusedSimpArgs false
theorem bytes_pre {H G : Nat} {w w' : World} {a : Option Addr} {cap : Nat} {l p : List Int} (h : BytesAt H w a cap l) (hb : Below H w w') (hG : H ≤ G) {r : List Int} (e : l = p ++ r) : BytesAt G w' a cap p :=
  ⟨by have := h.1; rw [e, List.length_append] at this; omega, h.2.1, fun hn => by
    obtain ⟨b, off, e2, hb2, hall⟩ := h.2.2 (by rw [e]; intro h; exact hn (List.append_eq_nil_iff.1 h).1)
    refine ⟨b, off, e2, by omega, fun i x hx => (hb.cell (p := ⟨b, _, none⟩) hb2).trans (hall i x ?_)⟩
    rw [e, List.getElem?_append_left (List.getElem?_eq_some_iff.1 hx).1]
    exact hx⟩
set_option maxRecDepth 100000 in
set_option maxHeartbeats 8000000 in
theorem once_few (W : World) (a : Option Addr) (cap : Nat) (l : List Int) (h : BytesAt W.heap.size W a cap l) (hb : IsB l) (hl : l.length ≤ 5000) :
    Calls Try.prog 10 #[.slice a l.length cap] W fun e W' => e = .returned (.bool true) ∧ Below W.heap.size W W' := by
  have HB := Lib.hid h
  have HI := Lib.hid hb
  have hcap := h.1
  have hmax := h.2.1
  unfold maxLen at hmax
  clear h hb
  go_enter Try.func10, Try.ntmps10
  go_wp2_with fail
  refine (get_any W a cap l HB.out HI.out).mono ?_
  rintro e w1 ⟨hG, hb1⟩
  have hz1 := hb1.size
  have HW1 := Lib.hid hb1
  clear hb1
  rcases hG with ⟨hbad, rfl⟩ | ⟨hgood, rfl⟩
  · have hbb : ((get l).1.why != 0) = true := by simpa using hbad
    clear hbad
    generalize (get l).1.why = y at *
    unfold ev0
    go_wp2_with (go_at_call 24; refine (known_ok _).mono ?_; rintro e w5 ⟨rfl, hb5⟩)
    go_returns
    exact ⟨rfl, (HW1.out.alloc hz1 _).trans (hb5.mono (by simp; omega))⟩
  · obtain ⟨g1, g2, g3, g4⟩ := got_back l HI.out hgood
    have HLE := Lib.hid g2
    have EOK := Lib.hid g1
    have hPl : 0 < (putE (evG l)).length := List.length_pos_iff.2 g3
    have hLl : l.length = (putE (evG l)).length + (get l).1.l.length := by have := congrArg List.length g2; simpa using this
    have hidx : ((l.length : Int) - ((get l).1.l.length : Int)) = ((putE (evG l)).length : Int) := by omega
    rw [← g4, hidx]
    have hi1 : (putE (evG l)).length ≤ l.length := by omega
    clear g1 g2 g3 g4 hidx hgood hLl
    generalize (get l).1.l = R at *
    generalize evG l = ev at *
    unfold EvI.val
    generalize hpn : (putE ev).length = pn at *
    have HPN : Hid (pn = (putE ev).length) := Lib.hid hpn.symm
    clear hpn
    have hi2 : (pn : Int) ≤ (l.length : Int) := by omega
    have hi3 : (pn : Int) ≤ (cap : Int) := by omega
    have hi4 : (0 : Int) < (pn : Int) := by omega
    have hq : BytesAt w1.heap.size w1 a cap l := (HB.out.ch (Ch.of_below (F := fun _ => False) HW1.out) (Nat.le_refl _) (fun _ _ h => h)).mono hz1
    have HQ := Lib.hid hq
    clear hq
    go_wp2_with fail
    refine (read_any _ a cap l (bytes_pre HB.out (HW1.out.alloc hz1 _) (by simp; omega) (by rw [List.append_nil])) HI.out).mono ?_
    rintro e w2 ⟨hR, hb2⟩
    have hz2 := hb2.size
    simp at hz2
    have x0 : w2.cell? ⟨w1.heap.size, 0, none⟩ = some (.int .i64 ev.k) := keepcell hb2 (by go_simp)
    have x1 : w2.cell? ⟨w1.heap.size, 1, none⟩ = some (.int .i64 ev.cpu) := keepcell hb2 (by go_simp)
    have x2 : w2.cell? ⟨w1.heap.size, 2, none⟩ = some (.int .i64 ev.id) := keepcell hb2 (by go_simp)
    have x3 : w2.cell? ⟨w1.heap.size, 3, none⟩ = some (.int .u64 ev.mask) := keepcell hb2 (by go_simp)
    have x4 : w2.cell? ⟨w1.heap.size, 4, none⟩ = some (.int .i64 ev.n) := keepcell hb2 (by go_simp)
    have HW2 : Hid (Below W.heap.size W w2) := Lib.hid ((HW1.out.alloc hz1 _).trans (hb2.mono (by simp; omega)))
    clear hb2
    rcases hR with ⟨why, hwhy, rfl⟩ | ⟨ae, es, rfl, hE, h600, hok, hall⟩
    · have hw0 : (why == 0) = false := by simpa using hwhy
      clear hwhy
      go_wp2_with fail
      · have HWX := HW2
        refine wp_region_held_drew (S := fun w' => Below W.heap.size W w') (by kernel_rfl) HWX.out.drew (fun hHeld => ?_)
        refine wpAnyH_take (i := 0) (oi := ?_) (v := ?_) ?_ (by kernel_rfl) (by kernel_rfl) (by kernel_rfl) ?_ (Or.inl ⟨?_, ?_⟩) hHeld ?_
        rotate_left 2
        · simp only [List.getElem?_toArray, List.getElem?_cons_zero, List.getElem?_cons_succ]; rfl
        · exact fun _ _ _ h => h
        · rfl
        · intro w' hSw; (try dsimp only at hSw); go_simp; (try with_reducible rfl)
        (try simp only [Act.put, List.setIfInBounds_toArray, List.set_cons_zero, List.set_cons_succ])
        refine wpAnyH_take (i := 1) (oi := ?_) (v := ?_) ?_ (by kernel_rfl) (by kernel_rfl) (by kernel_rfl) ?_ (Or.inl ⟨?_, ?_⟩) hHeld ?_
        rotate_left 2
        · simp only [List.getElem?_toArray, List.getElem?_cons_zero, List.getElem?_cons_succ]; rfl
        · exact fun _ _ _ h => h
        · rfl
        · intro w' hSw; (try dsimp only at hSw); go_simp; (try with_reducible rfl)
        (try simp only [Act.put, List.setIfInBounds_toArray, List.set_cons_zero, List.set_cons_succ])
        refine wpAnyH_take (i := 2) (oi := ?_) (v := ?_) ?_ (by kernel_rfl) (by kernel_rfl) (by kernel_rfl) ?_ (Or.inl ⟨?_, ?_⟩) hHeld ?_
        rotate_left 2
        · simp only [List.getElem?_toArray, List.getElem?_cons_zero, List.getElem?_cons_succ]; rfl
        · exact fun _ _ _ h => h
        · rfl
        · intro w' hSw; (try dsimp only at hSw); go_simp; (try with_reducible rfl)
        (try simp only [Act.put, List.setIfInBounds_toArray, List.set_cons_zero, List.set_cons_succ])
        refine wpAnyH_take (i := 3) (oi := ?_) (v := ?_) ?_ (by kernel_rfl) (by kernel_rfl) (by kernel_rfl) ?_ (Or.inl ⟨?_, ?_⟩) hHeld ?_
        rotate_left 2
        · simp only [List.getElem?_toArray, List.getElem?_cons_zero, List.getElem?_cons_succ]; rfl
        · exact fun _ _ _ h => h
        · rfl
        · intro w' hSw; (try dsimp only at hSw); go_simp; (try with_reducible rfl)
        (try simp only [Act.put, List.setIfInBounds_toArray, List.set_cons_zero, List.set_cons_succ])
        refine wpAnyH_take (i := 4) (oi := ?_) (v := ?_) ?_ (by kernel_rfl) (by kernel_rfl) (by kernel_rfl) ?_ (Or.inl ⟨?_, ?_⟩) hHeld ?_
        rotate_left 2
        · simp only [List.getElem?_toArray, List.getElem?_cons_zero, List.getElem?_cons_succ]; rfl
        · exact fun _ _ _ h => h
        · rfl
        · intro w' hSw; (try dsimp only at hSw); go_simp; (try with_reducible rfl)
        (try simp only [Act.put, List.setIfInBounds_toArray, List.set_cons_zero, List.set_cons_succ])
        refine wpAnyH_take (i := 5) (oi := ?_) (v := ?_) ?_ (by kernel_rfl) (by kernel_rfl) (by kernel_rfl) ?_ (Or.inl ⟨?_, ?_⟩) hHeld ?_
        rotate_left 2
        · simp only [List.getElem?_toArray, List.getElem?_cons_zero, List.getElem?_cons_succ]; rfl
        · exact fun _ _ _ h => h
        · rfl
        · intro w' hSw; (try dsimp only at hSw); go_simp; (try with_reducible rfl)
        (try simp only [Act.put, List.setIfInBounds_toArray, List.set_cons_zero, List.set_cons_succ])
        refine wpAnyH_take (i := 6) (oi := ?_) (v := ?_) ?_ (by kernel_rfl) (by kernel_rfl) (by kernel_rfl) ?_ (Or.inl ⟨?_, ?_⟩) hHeld ?_
        rotate_left 2
        · simp only [List.getElem?_toArray, List.getElem?_cons_zero, List.getElem?_cons_succ]; rfl
        · exact fun _ _ _ h => h
        · rfl
        · intro w' hSw; (try dsimp only at hSw); go_simp; (try with_reducible rfl)
        (try simp only [Act.put, List.setIfInBounds_toArray, List.set_cons_zero, List.set_cons_succ])
        refine wpAnyH_take (i := 7) (oi := ?_) (v := ?_) ?_ (by kernel_rfl) (by kernel_rfl) (by kernel_rfl) ?_ (Or.inl ⟨?_, ?_⟩) hHeld ?_
        rotate_left 2
        · simp only [List.getElem?_toArray, List.getElem?_cons_zero, List.getElem?_cons_succ]; rfl
        · exact fun _ _ _ h => h
        · rfl
        · intro w' hSw; (try dsimp only at hSw); go_simp; (try with_reducible rfl)
        (try simp only [Act.put, List.setIfInBounds_toArray, List.set_cons_zero, List.set_cons_succ])
        refine wpAnyH_take (i := 8) (oi := ?_) (v := ?_) ?_ (by kernel_rfl) (by kernel_rfl) (by kernel_rfl) ?_ (Or.inl ⟨?_, ?_⟩) hHeld ?_
        rotate_left 2
        · simp only [List.getElem?_toArray, List.getElem?_cons_zero, List.getElem?_cons_succ]; rfl
        · exact fun _ _ _ h => h
        · rfl
        · intro w' hSw; (try dsimp only at hSw); go_simp; (try with_reducible rfl)
        (try simp only [Act.put, List.setIfInBounds_toArray, List.set_cons_zero, List.set_cons_succ])
        refine wpAnyH_take (i := 11) (oi := ?_) (v := ?_) ?_ (by kernel_rfl) (by kernel_rfl) (by kernel_rfl) ?_ (Or.inl ⟨?_, ?_⟩) hHeld ?_
        rotate_left 2
        · simp only [List.getElem?_toArray, List.getElem?_cons_zero, List.getElem?_cons_succ]; rfl
        · exact fun _ _ _ h => h
        · rfl
        · intro w' hSw; (try dsimp only at hSw); go_simp; (try with_reducible rfl)
        (try simp only [Act.put, List.setIfInBounds_toArray, List.set_cons_zero, List.set_cons_succ])
        refine wpAnyH_take (i := 12) (oi := ?_) (v := ?_) ?_ (by kernel_rfl) (by kernel_rfl) (by kernel_rfl) ?_ (Or.inl ⟨?_, ?_⟩) hHeld ?_
        rotate_left 2
        · simp only [List.getElem?_toArray, List.getElem?_cons_zero, List.getElem?_cons_succ]; rfl
        · exact fun _ _ _ h => h
        · rfl
        · intro w' hSw; (try dsimp only at hSw); go_simp; (try with_reducible rfl)
        (try simp only [Act.put, List.setIfInBounds_toArray, List.set_cons_zero, List.set_cons_succ])
        refine wpAnyH_take (i := 13) (oi := ?_) (v := ?_) ?_ (by kernel_rfl) (by kernel_rfl) (by kernel_rfl) ?_ (Or.inl ⟨?_, ?_⟩) hHeld ?_
        rotate_left 2
        · simp only [List.getElem?_toArray, List.getElem?_cons_zero, List.getElem?_cons_succ]; rfl
        · exact fun _ _ _ h => h
        · rfl
        · intro w' hSw; (try dsimp only at hSw); go_simp; (try with_reducible rfl)
        (try simp only [Act.put, List.setIfInBounds_toArray, List.set_cons_zero, List.set_cons_succ])
        refine wpAnyH_ready (rs := [9]) (by kernel_rfl) (by simp) ?_
        refine AllReadyH.cons (o := ?_) ?_ (fun K hK => ?_) AllReadyH.nil
        rotate_left 1
        · simp only [List.getElem?_toArray, List.getElem?_cons_zero, List.getElem?_cons_succ]; rfl
        go_simp
        refine hK.out _ _ hHeld (fun hHeld => ?_)
        clear hK K
        (try simp only [Act.put, List.setIfInBounds_toArray, List.set_cons_zero, List.set_cons_succ])
        refine wpAnyH_ready (rs := [10]) (by kernel_rfl) (by simp) ?_
        refine AllReadyH.cons (o := ?_) ?_ (fun K hK => ?_) AllReadyH.nil
        rotate_left 1
        · simp only [List.getElem?_toArray, List.getElem?_cons_zero, List.getElem?_cons_succ]; rfl
        go_simp
        refine (put_any ev EOK.out _).mono ?_
        rintro e w7 ⟨v7, rfl, hO7, hb7⟩
        have hz7 := hHeld.size
        refine hK.out _ _ (hHeld.trans (hb7.mono hz7)) (fun hHeld => ?_)
        clear hK K
        (try simp only [Act.put, List.setIfInBounds_toArray, List.set_cons_zero, List.set_cons_succ])
        have HB7 := Lib.hid hHeld
        obtain ⟨a7, c7, rfl, hA7, _⟩ := ownB_at hO7
        have HA7 := Lib.hid hA7
        clear hO7 hb7 hA7 x0 x1 x2 x3 x4
        refine wpAnyH_ready (rs := [14]) (by kernel_rfl) (by simp) ?_
        refine AllReadyH.cons (o := ?_) ?_ (fun K hK => ?_) AllReadyH.nil
        rotate_left 1
        · simp only [List.getElem?_toArray, List.getElem?_cons_zero, List.getElem?_cons_succ]; rfl
        go_simp
        rw [HPN.out]
        refine (bytes_same w7 (putE ev) HA7.out (bytes_pre HB.out HB7.out (by have := HB7.out.size; omega) HLE.out)).mono ?_
        rintro e w8 ⟨rfl, rfl⟩
        refine hK.out _ _ hHeld (fun hHeld => ?_)
        clear hK K
        (try simp only [Act.put, List.setIfInBounds_toArray, List.set_cons_zero, List.set_cons_succ])
        refine wpAnyH_take (i := 15) (oi := ?_) (v := ?_) ?_ (by kernel_rfl) (by kernel_rfl) (by kernel_rfl) ?_ (Or.inl ⟨?_, ?_⟩) hHeld ?_
        rotate_left 2
        · simp only [List.getElem?_toArray, List.getElem?_cons_zero, List.getElem?_cons_succ]; rfl
        · exact fun _ _ _ h => h
        · rfl
        · intro w' hSw; (try dsimp only at hSw); go_simp; (try with_reducible rfl)
        (try simp only [Act.put, List.setIfInBounds_toArray, List.set_cons_zero, List.set_cons_succ])
        refine wpAnyH_take (i := 16) (oi := ?_) (v := ?_) ?_ (by kernel_rfl) (by kernel_rfl) (by kernel_rfl) ?_ (Or.inl ⟨?_, ?_⟩) hHeld ?_
        rotate_left 2
        · simp only [List.getElem?_toArray, List.getElem?_cons_zero, List.getElem?_cons_succ]; rfl
        · exact fun _ _ _ h => h
        · rfl
        · intro w' hSw; (try dsimp only at hSw); go_simp; (try with_reducible rfl)
        (try simp only [Act.put, List.setIfInBounds_toArray, List.set_cons_zero, List.set_cons_succ])
        refine wpAnyH_ready (rs := [17]) (by kernel_rfl) (by simp) ?_
        refine AllReadyH.cons (o := ?_) ?_ (fun K hK => ?_) AllReadyH.nil
        rotate_left 1
        · simp only [List.getElem?_toArray, List.getElem?_cons_zero, List.getElem?_cons_succ]; rfl
        go_simp
        refine (known_ok w7).mono ?_
        rintro e w9 ⟨rfl, hb9⟩
        refine hK.out _ _ (hHeld.trans (hb9.mono hHeld.size)) (fun hHeld => ?_)
        clear hK K
        (try simp only [Act.put, List.setIfInBounds_toArray, List.set_cons_zero, List.set_cons_succ])
        refine wpAnyH_take (i := 18) (oi := ?_) (v := ?_) ?_ (by kernel_rfl) (by kernel_rfl) (by kernel_rfl) ?_ (Or.inl ⟨?_, ?_⟩) hHeld ?_
        rotate_left 2
        · simp only [List.getElem?_toArray, List.getElem?_cons_zero, List.getElem?_cons_succ]; rfl
        · exact fun _ _ _ h => h
        · rfl
        · intro w' hSw; (try dsimp only at hSw); go_simp; (try with_reducible rfl)
        (try simp only [Act.put, List.setIfInBounds_toArray, List.set_cons_zero, List.set_cons_succ])
        refine wpAnyH_take (i := 19) (oi := ?_) (v := ?_) ?_ (by kernel_rfl) (by kernel_rfl) (by kernel_rfl) ?_ (Or.inl ⟨?_, ?_⟩) hHeld ?_
        rotate_left 2
        · simp only [List.getElem?_toArray, List.getElem?_cons_zero, List.getElem?_cons_succ]; rfl
        · exact fun _ _ _ h => h
        · rfl
        · intro w' hSw; (try dsimp only at hSw); go_simp; (try with_reducible rfl)
        (try simp only [Act.put, List.setIfInBounds_toArray, List.set_cons_zero, List.set_cons_succ])
        refine wpAnyH_done (by kernel_rfl) ?_ _
        go_wp2
        go_returns
        exact ⟨rfl, hHeld⟩
    · have HE := Lib.hid hE
      have OKS := Lib.hid hok
      have HAL := Lib.hid hall
      clear hE hok hall
      go_wp2_with fail
      refine (all_any w2 ae es.length es HE.out OKS.out (by omega)).mono ?_
      rintro e w3 ⟨v3, rfl, hO3, hb3⟩
      obtain ⟨a3, c3, rfl, hA3, _⟩ := ownB_at hO3
      replace x0 := keepcell hb3 x0
      replace x1 := keepcell hb3 x1
      replace x2 := keepcell hb3 x2
      replace x3 := keepcell hb3 x3
      replace x4 := keepcell hb3 x4
      have hz3 := hb3.size
      have HW3 : Hid (Below W.heap.size W w3) := Lib.hid (HW2.out.trans (hb3.mono (by omega)))
      have HA3 := Lib.hid hA3
      clear hb3 hO3 hA3
      rw [HAL.out] at HA3 ⊢
      go_wp2_with fail
      refine (bytes_same w3 l HA3.out (bytes_pre HB.out HW3.out (by omega) (by rw [List.append_nil]))).mono ?_
      rintro e w4 ⟨rfl, rfl⟩
      go_wp2_with fail
      · have HWX := HW3
        refine wp_region_held_drew (S := fun w' => Below W.heap.size W w') (by kernel_rfl) HWX.out.drew (fun hHeld => ?_)
        refine wpAnyH_take (i := 0) (oi := ?_) (v := ?_) ?_ (by kernel_rfl) (by kernel_rfl) (by kernel_rfl) ?_ (Or.inl ⟨?_, ?_⟩) hHeld ?_
        rotate_left 2
        · simp only [List.getElem?_toArray, List.getElem?_cons_zero, List.getElem?_cons_succ]; rfl
        · exact fun _ _ _ h => h
        · rfl
        · intro w' hSw; (try dsimp only at hSw); go_simp; (try with_reducible rfl)
        (try simp only [Act.put, List.setIfInBounds_toArray, List.set_cons_zero, List.set_cons_succ])
        refine wpAnyH_take (i := 1) (oi := ?_) (v := ?_) ?_ (by kernel_rfl) (by kernel_rfl) (by kernel_rfl) ?_ (Or.inl ⟨?_, ?_⟩) hHeld ?_
        rotate_left 2
        · simp only [List.getElem?_toArray, List.getElem?_cons_zero, List.getElem?_cons_succ]; rfl
        · exact fun _ _ _ h => h
        · rfl
        · intro w' hSw; (try dsimp only at hSw); go_simp; (try with_reducible rfl)
        (try simp only [Act.put, List.setIfInBounds_toArray, List.set_cons_zero, List.set_cons_succ])
        refine wpAnyH_take (i := 2) (oi := ?_) (v := ?_) ?_ (by kernel_rfl) (by kernel_rfl) (by kernel_rfl) ?_ (Or.inl ⟨?_, ?_⟩) hHeld ?_
        rotate_left 2
        · simp only [List.getElem?_toArray, List.getElem?_cons_zero, List.getElem?_cons_succ]; rfl
        · exact fun _ _ _ h => h
        · rfl
        · intro w' hSw; (try dsimp only at hSw); go_simp; (try with_reducible rfl)
        (try simp only [Act.put, List.setIfInBounds_toArray, List.set_cons_zero, List.set_cons_succ])
        refine wpAnyH_take (i := 3) (oi := ?_) (v := ?_) ?_ (by kernel_rfl) (by kernel_rfl) (by kernel_rfl) ?_ (Or.inl ⟨?_, ?_⟩) hHeld ?_
        rotate_left 2
        · simp only [List.getElem?_toArray, List.getElem?_cons_zero, List.getElem?_cons_succ]; rfl
        · exact fun _ _ _ h => h
        · rfl
        · intro w' hSw; (try dsimp only at hSw); go_simp; (try with_reducible rfl)
        (try simp only [Act.put, List.setIfInBounds_toArray, List.set_cons_zero, List.set_cons_succ])
        refine wpAnyH_take (i := 4) (oi := ?_) (v := ?_) ?_ (by kernel_rfl) (by kernel_rfl) (by kernel_rfl) ?_ (Or.inl ⟨?_, ?_⟩) hHeld ?_
        rotate_left 2
        · simp only [List.getElem?_toArray, List.getElem?_cons_zero, List.getElem?_cons_succ]; rfl
        · exact fun _ _ _ h => h
        · rfl
        · intro w' hSw; (try dsimp only at hSw); go_simp; (try with_reducible rfl)
        (try simp only [Act.put, List.setIfInBounds_toArray, List.set_cons_zero, List.set_cons_succ])
        refine wpAnyH_take (i := 5) (oi := ?_) (v := ?_) ?_ (by kernel_rfl) (by kernel_rfl) (by kernel_rfl) ?_ (Or.inl ⟨?_, ?_⟩) hHeld ?_
        rotate_left 2
        · simp only [List.getElem?_toArray, List.getElem?_cons_zero, List.getElem?_cons_succ]; rfl
        · exact fun _ _ _ h => h
        · rfl
        · intro w' hSw; (try dsimp only at hSw); go_simp; (try with_reducible rfl)
        (try simp only [Act.put, List.setIfInBounds_toArray, List.set_cons_zero, List.set_cons_succ])
        refine wpAnyH_take (i := 6) (oi := ?_) (v := ?_) ?_ (by kernel_rfl) (by kernel_rfl) (by kernel_rfl) ?_ (Or.inl ⟨?_, ?_⟩) hHeld ?_
        rotate_left 2
        · simp only [List.getElem?_toArray, List.getElem?_cons_zero, List.getElem?_cons_succ]; rfl
        · exact fun _ _ _ h => h
        · rfl
        · intro w' hSw; (try dsimp only at hSw); go_simp; (try with_reducible rfl)
        (try simp only [Act.put, List.setIfInBounds_toArray, List.set_cons_zero, List.set_cons_succ])
        refine wpAnyH_take (i := 7) (oi := ?_) (v := ?_) ?_ (by kernel_rfl) (by kernel_rfl) (by kernel_rfl) ?_ (Or.inl ⟨?_, ?_⟩) hHeld ?_
        rotate_left 2
        · simp only [List.getElem?_toArray, List.getElem?_cons_zero, List.getElem?_cons_succ]; rfl
        · exact fun _ _ _ h => h
        · rfl
        · intro w' hSw; (try dsimp only at hSw); go_simp; (try with_reducible rfl)
        (try simp only [Act.put, List.setIfInBounds_toArray, List.set_cons_zero, List.set_cons_succ])
        refine wpAnyH_take (i := 8) (oi := ?_) (v := ?_) ?_ (by kernel_rfl) (by kernel_rfl) (by kernel_rfl) ?_ (Or.inl ⟨?_, ?_⟩) hHeld ?_
        rotate_left 2
        · simp only [List.getElem?_toArray, List.getElem?_cons_zero, List.getElem?_cons_succ]; rfl
        · exact fun _ _ _ h => h
        · rfl
        · intro w' hSw; (try dsimp only at hSw); go_simp; (try with_reducible rfl)
        (try simp only [Act.put, List.setIfInBounds_toArray, List.set_cons_zero, List.set_cons_succ])
        refine wpAnyH_take (i := 11) (oi := ?_) (v := ?_) ?_ (by kernel_rfl) (by kernel_rfl) (by kernel_rfl) ?_ (Or.inl ⟨?_, ?_⟩) hHeld ?_
        rotate_left 2
        · simp only [List.getElem?_toArray, List.getElem?_cons_zero, List.getElem?_cons_succ]; rfl
        · exact fun _ _ _ h => h
        · rfl
        · intro w' hSw; (try dsimp only at hSw); go_simp; (try with_reducible rfl)
        (try simp only [Act.put, List.setIfInBounds_toArray, List.set_cons_zero, List.set_cons_succ])
        refine wpAnyH_take (i := 12) (oi := ?_) (v := ?_) ?_ (by kernel_rfl) (by kernel_rfl) (by kernel_rfl) ?_ (Or.inl ⟨?_, ?_⟩) hHeld ?_
        rotate_left 2
        · simp only [List.getElem?_toArray, List.getElem?_cons_zero, List.getElem?_cons_succ]; rfl
        · exact fun _ _ _ h => h
        · rfl
        · intro w' hSw; (try dsimp only at hSw); go_simp; (try with_reducible rfl)
        (try simp only [Act.put, List.setIfInBounds_toArray, List.set_cons_zero, List.set_cons_succ])
        refine wpAnyH_take (i := 13) (oi := ?_) (v := ?_) ?_ (by kernel_rfl) (by kernel_rfl) (by kernel_rfl) ?_ (Or.inl ⟨?_, ?_⟩) hHeld ?_
        rotate_left 2
        · simp only [List.getElem?_toArray, List.getElem?_cons_zero, List.getElem?_cons_succ]; rfl
        · exact fun _ _ _ h => h
        · rfl
        · intro w' hSw; (try dsimp only at hSw); go_simp; (try with_reducible rfl)
        (try simp only [Act.put, List.setIfInBounds_toArray, List.set_cons_zero, List.set_cons_succ])
        refine wpAnyH_ready (rs := [9]) (by kernel_rfl) (by simp) ?_
        refine AllReadyH.cons (o := ?_) ?_ (fun K hK => ?_) AllReadyH.nil
        rotate_left 1
        · simp only [List.getElem?_toArray, List.getElem?_cons_zero, List.getElem?_cons_succ]; rfl
        go_simp
        refine hK.out _ _ hHeld (fun hHeld => ?_)
        clear hK K
        (try simp only [Act.put, List.setIfInBounds_toArray, List.set_cons_zero, List.set_cons_succ])
        refine wpAnyH_ready (rs := [10]) (by kernel_rfl) (by simp) ?_
        refine AllReadyH.cons (o := ?_) ?_ (fun K hK => ?_) AllReadyH.nil
        rotate_left 1
        · simp only [List.getElem?_toArray, List.getElem?_cons_zero, List.getElem?_cons_succ]; rfl
        go_simp
        refine (put_any ev EOK.out _).mono ?_
        rintro e w7 ⟨v7, rfl, hO7, hb7⟩
        have hz7 := hHeld.size
        refine hK.out _ _ (hHeld.trans (hb7.mono hz7)) (fun hHeld => ?_)
        clear hK K
        (try simp only [Act.put, List.setIfInBounds_toArray, List.set_cons_zero, List.set_cons_succ])
        have HB7 := Lib.hid hHeld
        obtain ⟨a7, c7, rfl, hA7, _⟩ := ownB_at hO7
        have HA7 := Lib.hid hA7
        clear hO7 hb7 hA7 x0 x1 x2 x3 x4
        refine wpAnyH_ready (rs := [14]) (by kernel_rfl) (by simp) ?_
        refine AllReadyH.cons (o := ?_) ?_ (fun K hK => ?_) AllReadyH.nil
        rotate_left 1
        · simp only [List.getElem?_toArray, List.getElem?_cons_zero, List.getElem?_cons_succ]; rfl
        go_simp
        rw [HPN.out]
        refine (bytes_same w7 (putE ev) HA7.out (bytes_pre HB.out HB7.out (by have := HB7.out.size; omega) HLE.out)).mono ?_
        rintro e w8 ⟨rfl, rfl⟩
        refine hK.out _ _ hHeld (fun hHeld => ?_)
        clear hK K
        (try simp only [Act.put, List.setIfInBounds_toArray, List.set_cons_zero, List.set_cons_succ])
        refine wpAnyH_take (i := 15) (oi := ?_) (v := ?_) ?_ (by kernel_rfl) (by kernel_rfl) (by kernel_rfl) ?_ (Or.inl ⟨?_, ?_⟩) hHeld ?_
        rotate_left 2
        · simp only [List.getElem?_toArray, List.getElem?_cons_zero, List.getElem?_cons_succ]; rfl
        · exact fun _ _ _ h => h
        · rfl
        · intro w' hSw; (try dsimp only at hSw); go_simp; (try with_reducible rfl)
        (try simp only [Act.put, List.setIfInBounds_toArray, List.set_cons_zero, List.set_cons_succ])
        refine wpAnyH_take (i := 16) (oi := ?_) (v := ?_) ?_ (by kernel_rfl) (by kernel_rfl) (by kernel_rfl) ?_ (Or.inl ⟨?_, ?_⟩) hHeld ?_
        rotate_left 2
        · simp only [List.getElem?_toArray, List.getElem?_cons_zero, List.getElem?_cons_succ]; rfl
        · exact fun _ _ _ h => h
        · rfl
        · intro w' hSw; (try dsimp only at hSw); go_simp; (try with_reducible rfl)
        (try simp only [Act.put, List.setIfInBounds_toArray, List.set_cons_zero, List.set_cons_succ])
        refine wpAnyH_ready (rs := [17]) (by kernel_rfl) (by simp) ?_
        refine AllReadyH.cons (o := ?_) ?_ (fun K hK => ?_) AllReadyH.nil
        rotate_left 1
        · simp only [List.getElem?_toArray, List.getElem?_cons_zero, List.getElem?_cons_succ]; rfl
        go_simp
        refine (known_ok w7).mono ?_
        rintro e w9 ⟨rfl, hb9⟩
        refine hK.out _ _ (hHeld.trans (hb9.mono hHeld.size)) (fun hHeld => ?_)
        clear hK K
        (try simp only [Act.put, List.setIfInBounds_toArray, List.set_cons_zero, List.set_cons_succ])
        refine wpAnyH_take (i := 18) (oi := ?_) (v := ?_) ?_ (by kernel_rfl) (by kernel_rfl) (by kernel_rfl) ?_ (Or.inl ⟨?_, ?_⟩) hHeld ?_
        rotate_left 2
        · simp only [List.getElem?_toArray, List.getElem?_cons_zero, List.getElem?_cons_succ]; rfl
        · exact fun _ _ _ h => h
        · rfl
        · intro w' hSw; (try dsimp only at hSw); go_simp; (try with_reducible rfl)
        (try simp only [Act.put, List.setIfInBounds_toArray, List.set_cons_zero, List.set_cons_succ])
        refine wpAnyH_take (i := 19) (oi := ?_) (v := ?_) ?_ (by kernel_rfl) (by kernel_rfl) (by kernel_rfl) ?_ (Or.inl ⟨?_, ?_⟩) hHeld ?_
        rotate_left 2
        · simp only [List.getElem?_toArray, List.getElem?_cons_zero, List.getElem?_cons_succ]; rfl
        · exact fun _ _ _ h => h
        · rfl
        · intro w' hSw; (try dsimp only at hSw); go_simp; (try with_reducible rfl)
        (try simp only [Act.put, List.setIfInBounds_toArray, List.set_cons_zero, List.set_cons_succ])
        refine wpAnyH_done (by kernel_rfl) ?_ _
        go_wp2
        go_returns
        exact ⟨rfl, hHeld⟩
theorem once_walk (W : World) (a : Option Addr) (len cap : Nat) (z : Nat → Int) (row : IsInts W a len .u8 z) (le : len ≤ cap) (hbytes : len * 1 ≤ 140737488351232) (hcap : cap ≤ maxLen ∧ (a = none → cap = 0)) :
    Calls Try.prog 10 #[.slice a len cap] W fun e W' => e = .returned (.bool true) ∧ Below W.heap.size W W' := by
  by_cases hl : 5000 < len
  · clear row
    go_enter Try.func10, Try.ntmps10
    go_wp2_with (go_at_call 24; refine (known_ok _).mono ?_; rintro e w5 ⟨rfl, hb5⟩)
    go_returns
    exact ⟨rfl, hb5⟩
  · obtain ⟨h1, h2, h3⟩ := bytes_of row le hcap.1
    have := once_few W a cap _ h2 h3 (by omega)
    rwa [h1] at this
end Go.Proofs.Ytpefmgmhclbcbaa.WireN
