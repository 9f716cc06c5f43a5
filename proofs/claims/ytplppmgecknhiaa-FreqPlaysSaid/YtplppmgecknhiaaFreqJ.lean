/- The walk of FreqPlays. Condition: the row's own bounds on a slice that came in. -/
import Derived.Test.YtplppmgecknhiaaFreqI
namespace Go.Proofs.Ytplppmgecknhiaa.FreqJ
open Go.RowKit Go.Proofs.Ytplppmgecknhiaa.Open Go.Proofs.Ytplppmgecknhiaa.NumD Go.Proofs.Ytplppmgecknhiaa.NumE Go.Proofs.Ytplppmgecknhiaa.NumF Go.Proofs.Ytplppmgecknhiaa.Frame Go.Proofs.Ytplppmgecknhiaa.FreqA Go.Proofs.Ytplppmgecknhiaa.FreqB Go.Proofs.Ytplppmgecknhiaa.FreqF Go.Proofs.Ytplppmgecknhiaa.FreqG Go.Proofs.Ytplppmgecknhiaa.FreqH Go.Proofs.Ytplppmgecknhiaa.FreqI Go.Proofs.Ytplppmgecknhiaa.FreqD
set_option linter.unusedVariables false
set_option linter.unusedSimpArgs false
set_option maxRecDepth 100000 in
set_option maxHeartbeats 8000000 in
theorem plays_walk (W : World) (low : Int) (wl : (Lit.int .i64 low).wf = true) (high : Int) (wh : (Lit.int .i64 high).wf = true) (a : Option Addr) (len cap : Nat) (V : Nat → Nat → Value) (hrow : StructRow W a len ks V) (hcap : len ≤ cap) (hl : len * 24 ≤ 140737488351232) :
    Calls Try.prog 9 #[.int .i64 low, .int .i64 high, .slice a len cap] W fun e W' => e = .returned (.bool true) ∧ Below W.heap.size W W' := by
  have HR := Lib.hid hrow
  clear hrow wl wh
  cases rt : rightB low high with
  | false =>
    have RT := Lib.hid rt
    clear rt
    go_enter Try.func9, Try.ntmps9
    go_wp2_with fail
    refine (new_bad W low high RT.out).mono ?_
    rintro e w1 ⟨rfl, rfl⟩
    go_wp2_with fail
    refine (rnew_bad W low high RT.out).mono ?_
    rintro e w1 ⟨rfl, rfl⟩
    go_wp2_with fail
    refine (FreqC.known_ok W).mono ?_
    rintro e w2 ⟨rfl, b2⟩
    go_wp2
    go_returns
    exact ⟨rfl, b2⟩
  | true =>
    have RT := Lib.hid rt
    clear rt
    go_enter Try.func9, Try.ntmps9
    go_wp2_with fail
    refine (new_ok W low high RT.out).mono ?_
    rintro e w1 ⟨rfl, h1, b1⟩
    have H1 := Lib.hid h1
    have B1 := Lib.hid b1
    have z1 := h1.lt
    clear h1 b1
    go_wp2_with fail
    refine (rnew_ok w1 low high RT.out).mono ?_
    rintro e w2 ⟨rfl, h2, b2⟩
    have H2 := Lib.hid h2
    have B2 := Lib.hid (B1.out.trans (b2.mono B1.out.size))
    have H12 := Lib.hid (H1.out.below b2)
    clear h2 b2 H1 B1
    generalize w1.heap.size = rb at *
    generalize hgb : W.heap.size = gb at *
    have HGB := Lib.hid hgb
    clear hgb
    go_wp2_with fail
    go_loopg [11] len (fun g v wr => ∃ (k : Nat) (lo hi : Int) (u : Value) (l : List (Int × Int)), k ≤ len ∧ k ≤ 100 ∧ Hid (g + k = len) ∧ v = .int .i64 k ∧ Gov wr gb lo hi (ring l).1 (ring l).2 ∧ RGov wr rb lo hi u l ∧ goods l ∧ (ring l).1.ok ∧ (ring l).2 < 4 ∧ Hid (rightB lo hi = true) ∧ Hid (l.length ≤ k) ∧ Below gb W wr)
    case atStart => exact ⟨0, _, _, _, [], Nat.zero_le _, Nat.zero_le _, Lib.hid rfl, rfl, H12.out, H2.out, (by intro p hp; simp at hp), zero_ok, by show (0 : Nat) < 4; omega, RT, Lib.hid (Nat.le_refl _), B2.out⟩
    case round =>
      obtain ⟨k, lo, hi, u, l, hk, hk100, Hg, rfl, hG, hRG, hgl, hok, hi4, RT2, HL, hB⟩ := hrel
      have HG := Lib.hid hG
      have HRG := Lib.hid hRG
      have GL := Lib.hid hgl
      have HB := Lib.hid hB
      have OK := Lib.hid hok
      have I4 := Lib.hid hi4
      have zg := hG.lt
      have zr := hRG.lt
      have CB := Lib.hid (Ch.of_below (F := fun x => gb ≤ x) (by rw [HGB.out]; exact HB.out))
      clear hG hRG hgl hB hok hi4 H12 H2 B2
      have hout : (k < len ∧ k < 100 ∧ decide ((k : Int) < 100) = true) ∨ k = len ∨ (k < len ∧ decide ((k : Int) < 100) = false) := by
        by_cases h : k < len
        · by_cases h2 : k < 100
          · exact .inl ⟨h, h2, by simp; omega⟩
          · exact .inr (.inr ⟨h, by simp; omega⟩)
        · exact .inr (.inl (by omega))
      rcases hout with ⟨hlt, hlt100, d50⟩ | rfl | ⟨hlt, d50⟩
      · obtain ⟨b, off, rfl, hb, hacts⟩ := acts_at HR.out (by omega)
        obtain ⟨e0, e1, e2⟩ := hacts k hlt
        clear hacts
        generalize boolOf (V k 0) = T at *
        generalize numOf (V k 1) = A at *
        generalize numOf (V k 2) = C at *
        rw [HGB.out] at hb
        replace e0 := (HB.out.cell hb).trans e0
        replace e1 := (HB.out.cell hb).trans e1
        replace e2 := (HB.out.cell hb).trans e2
        have hbz : b < wr.heap.size := by have := HB.out.size; rw [HGB.out] at this; omega
        obtain ⟨sc, lo2, hi2, hset⟩ := setR_ex lo hi A C
        obtain ⟨x, fc, l2, hfeed⟩ := feedR_ex lo hi l A C
        have HS := Lib.hid hset
        have HF := Lib.hid hfeed
        clear hset hfeed
        cases T
        · go_wp2_with fail
          refine (feed_f HF.out _ _ (HG.out.ch (F := fun _ => False) (by (repeat' (first | with_reducible exact Ch.refl _ _ | (with_reducible refine Ch.alloc ?_ _) | (with_reducible refine Ch.drew ?_) | (with_reducible refine Ch.drewN ?_ _)))) id) OK.out I4.out RT2.out).mono ?_
          rintro e wa ⟨rfl, hGa, hCa⟩
          have k1 : wa.cell? ⟨wr.heap.size, 1, none⟩ = some (.int .i64 A) := keepch hCa (by go_simp) (by omega)
          have k2 : wa.cell? ⟨wr.heap.size, 2, none⟩ = some (.int .i64 C) := keepch hCa (by go_simp) (by omega)
          have HGa := Lib.hid hGa
          have HCa := Lib.hid hCa
          clear hGa hCa e0 e1 e2
          go_wp2_with fail
          refine (rfeed_f HF.out _ _ _ (RGov.ch HRG.out (F := (· = gb)) (Ch.trans (by (repeat' (first | with_reducible exact Ch.refl _ _ | (with_reducible refine Ch.alloc ?_ _) | (with_reducible refine Ch.drew ?_) | (with_reducible refine Ch.drewN ?_ _)))) HCa.out) (by omega)) GL.out (by have := HL.out; omega) RT2.out).mono ?_
          rintro e wb ⟨rfl, ⟨u2, hRb⟩, hCb⟩
          obtain ⟨gl2, ok2, i24, hl2⟩ := feedR_keep HF.out GL.out OK.out I4.out
          have GL2 := Lib.hid gl2
          have OK2 := Lib.hid ok2
          have HL2 := Lib.hid (show l2.length ≤ k + 1 by have := HL.out; omega)
          have HG2 := Lib.hid (HGa.out.ch hCb (by omega))
          have HR2 := Lib.hid hRb
          have C2 := Lib.hid (Ch.then (a := W) (Ch.then (a := W) (F := fun x => gb ≤ x) (by (repeat' (first | exact CB.out | (with_reducible refine Ch.alloc ?_ _) | (with_reducible refine Ch.drew ?_) | (with_reducible refine Ch.drewN ?_ _)))) HCa.out (fun _ _ e => by omega)) hCb (fun _ _ e => by omega))
          clear gl2 ok2 hRb hCb k1 k2 hl2
          obtain ⟨F, hFF⟩ : ∃ F, scaleF lo hi (busyF (ring l2).1) = F := ⟨_, rfl⟩
          obtain ⟨B, hBB⟩ : ∃ B, busyF (ring l2).1 = B := ⟨_, rfl⟩
          have HFF := Lib.hid hFF
          have HBB := Lib.hid hBB
          have HRF := Lib.hid (show scaleF lo hi (rbusyF l2) = F by rw [rbusy_eq]; exact hFF)
          have HRB := Lib.hid (show rbusyF l2 = B by rw [rbusy_eq]; exact hBB)
          clear hFF hBB
          go_wp2_with fail
          refine (limits_any _ _ _ _ _ _ HG2.out).mono ?_
          rintro e w3 ⟨rfl, n3, hn3⟩
          have b3 : Below wb.heap.size wb w3 := by rw [hn3]; exact below_drewN (Below.refl _ _) _
          have HG3 := Lib.hid (HG2.out.below b3)
          have HR3 := Lib.hid (HR2.out.below b3)
          have C3 := Lib.hid (C2.out.then (Ch.of_below (F := fun _ => False) b3) (fun _ _ h => h.elim))
          clear hn3 b3
          go_wp2_with fail
          refine (FreqE.freq_is _ _ _ _ _ _ HG3.out OK2.out RT2.out F HFF.out).mono ?_
          rintro e w4 ⟨rfl, b4⟩
          have HG4 := Lib.hid (HG3.out.below b4)
          have HR4 := Lib.hid (HR3.out.below b4)
          have C4 := Lib.hid (C3.out.then (Ch.of_below (F := fun _ => False) b4) (fun _ _ h => h.elim))
          clear b4
          go_wp2_with fail
          refine (rfreq_is _ _ _ _ _ _ HR4.out GL2.out (by have := HL2.out; omega) RT2.out F HRF.out).mono ?_
          rintro e w5 ⟨rfl, n5, hn5⟩
          have b5 : Below w4.heap.size w4 w5 := by rw [hn5]; exact below_drewN (Below.refl _ _) _
          have HG5 := Lib.hid (HG4.out.below b5)
          have HR5 := Lib.hid (HR4.out.below b5)
          have C5 := Lib.hid (C4.out.then (Ch.of_below (F := fun _ => False) b5) (fun _ _ h => h.elim))
          clear hn5 b5
          go_wp2_with fail
          refine (busy_is _ _ _ _ _ _ HG5.out OK2.out B HBB.out).mono ?_
          rintro e w6 ⟨rfl, b6⟩
          have HG6 := Lib.hid (HG5.out.below b6)
          have HR6 := Lib.hid (HR5.out.below b6)
          have C6 := Lib.hid (C5.out.then (Ch.of_below (F := fun _ => False) b6) (fun _ _ h => h.elim))
          clear b6
          go_wp2_with fail
          refine (rbusy_any _ _ _ _ _ _ HR6.out GL2.out (by have := HL2.out; omega)).mono ?_
          rintro e w7 ⟨rfl, rfl⟩
          rw [HRB.out]
          have q0 := HR6.out.c0
          have q1 := HR6.out.c1
          have zr6 := HR6.out.lt
          go_wp2_with fail
          go_roundg (len - (k + 1))
          case measure => have := Hg.out; omega
          case rel => exact ⟨k + 1, lo, hi, _, l2, by omega, by omega, Lib.hid (by omega), rfl, HG6.out, HR6.out, GL2.out, OK2.out, i24, RT2, HL2, C6.out.below (by rw [HGB.out]; exact Nat.le_refl _) (by intro q hq h; omega)⟩
        · go_wp2_with fail
          go_region_held3 (fun w' => w'.cell? ⟨wr.heap.size, 1, none⟩ = some (.int .i64 A) ∧ w'.cell? ⟨wr.heap.size, 2, none⟩ = some (.int .i64 C))
            (first
              | go_keep
              | (go_split_ands; refine ⟨?_, ?_⟩ <;> first | exact keepch hCb (by assumption) (by omega) | exact keepch hCa (by assumption) (by omega)))
            (first
              | (go_at_call 45; refine (set_f HS.out _ _ _ _ (HG.out.ch (F := fun _ => False) (by (repeat' (first | with_reducible exact Ch.refl _ _ | (with_reducible refine Ch.alloc ?_ _) | (with_reducible refine Ch.drew ?_) | (with_reducible refine Ch.drewN ?_ _)))) id)).mono ?_; rintro e wa ⟨rfl, hGa, hCa⟩)
              | (go_at_call 46; refine (rset_f HS.out _ _ _ _ (RGov.ch HRG.out (F := (· = gb)) (Ch.trans (by (repeat' (first | with_reducible exact Ch.refl _ _ | (with_reducible refine Ch.alloc ?_ _) | (with_reducible refine Ch.drew ?_) | (with_reducible refine Ch.drewN ?_ _)))) hCa) (by omega))).mono ?_; rintro e wb ⟨rfl, hRb, hCb⟩))
          have HGa := Lib.hid hGa
          have HRT3 := Lib.hid (setR_right HS.out RT2.out)
          have HL2 := Lib.hid (show l.length ≤ k + 1 by have := HL.out; omega)
          have HG2 := Lib.hid (HGa.out.ch hCb (by omega))
          have HR2 := Lib.hid hRb
          have C2 := Lib.hid (Ch.then (a := W) (Ch.then (a := W) (F := fun x => gb ≤ x) (by (repeat' (first | exact CB.out | (with_reducible refine Ch.alloc ?_ _) | (with_reducible refine Ch.drew ?_) | (with_reducible refine Ch.drewN ?_ _)))) hCa (fun _ _ e => by omega)) hCb (fun _ _ e => by omega))
          clear hRb hCb hCa hGa e0 e1 e2
          obtain ⟨F, hFF⟩ : ∃ F, scaleF lo2 hi2 (busyF (ring l).1) = F := ⟨_, rfl⟩
          obtain ⟨B, hBB⟩ : ∃ B, busyF (ring l).1 = B := ⟨_, rfl⟩
          have HFF := Lib.hid hFF
          have HBB := Lib.hid hBB
          have HRF := Lib.hid (show scaleF lo2 hi2 (rbusyF l) = F by rw [rbusy_eq]; exact hFF)
          have HRB := Lib.hid (show rbusyF l = B by rw [rbusy_eq]; exact hBB)
          clear hFF hBB
          go_wp2_with fail
          refine (limits_any _ _ _ _ _ _ HG2.out).mono ?_
          rintro e w3 ⟨rfl, n3, hn3⟩
          have b3 : Below wb.heap.size wb w3 := by rw [hn3]; exact below_drewN (Below.refl _ _) _
          have HG3 := Lib.hid (HG2.out.below b3)
          have HR3 := Lib.hid (HR2.out.below b3)
          have C3 := Lib.hid (C2.out.then (Ch.of_below (F := fun _ => False) b3) (fun _ _ h => h.elim))
          clear hn3 b3
          go_wp2_with fail
          refine (FreqE.freq_is _ _ _ _ _ _ HG3.out OK.out HRT3.out F HFF.out).mono ?_
          rintro e w4 ⟨rfl, b4⟩
          have HG4 := Lib.hid (HG3.out.below b4)
          have HR4 := Lib.hid (HR3.out.below b4)
          have C4 := Lib.hid (C3.out.then (Ch.of_below (F := fun _ => False) b4) (fun _ _ h => h.elim))
          clear b4
          go_wp2_with fail
          refine (rfreq_is _ _ _ _ _ _ HR4.out GL.out (by have := HL2.out; omega) HRT3.out F HRF.out).mono ?_
          rintro e w5 ⟨rfl, n5, hn5⟩
          have b5 : Below w4.heap.size w4 w5 := by rw [hn5]; exact below_drewN (Below.refl _ _) _
          have HG5 := Lib.hid (HG4.out.below b5)
          have HR5 := Lib.hid (HR4.out.below b5)
          have C5 := Lib.hid (C4.out.then (Ch.of_below (F := fun _ => False) b5) (fun _ _ h => h.elim))
          clear hn5 b5
          go_wp2_with fail
          refine (busy_is _ _ _ _ _ _ HG5.out OK.out B HBB.out).mono ?_
          rintro e w6 ⟨rfl, b6⟩
          have HG6 := Lib.hid (HG5.out.below b6)
          have HR6 := Lib.hid (HR5.out.below b6)
          have C6 := Lib.hid (C5.out.then (Ch.of_below (F := fun _ => False) b6) (fun _ _ h => h.elim))
          clear b6
          go_wp2_with fail
          refine (rbusy_any _ _ _ _ _ _ HR6.out GL.out (by have := HL2.out; omega)).mono ?_
          rintro e w7 ⟨rfl, rfl⟩
          rw [HRB.out]
          have q0 := HR6.out.c0
          have q1 := HR6.out.c1
          have zr6 := HR6.out.lt
          go_wp2_with fail
          go_roundg (len - (k + 1))
          case measure => have := Hg.out; omega
          case rel => exact ⟨k + 1, lo2, hi2, _, l, by omega, by omega, Lib.hid (by omega), rfl, HG6.out, HR6.out, GL.out, OK.out, I4.out, HRT3, HL2, C6.out.below (by rw [HGB.out]; exact Nat.le_refl _) (by intro q hq h; omega)⟩
      all_goals
        go_wp2_with fail
        refine (FreqC.known_ok wr).mono ?_
        rintro e w2 ⟨rfl, b2⟩
        go_wp2
        go_returns
        exact ⟨rfl, by rw [HGB.out]; exact HB.out.trans (b2.mono (by have := HB.out.size; have := HGB.out; omega))⟩
end Go.Proofs.Ytplppmgecknhiaa.FreqJ
