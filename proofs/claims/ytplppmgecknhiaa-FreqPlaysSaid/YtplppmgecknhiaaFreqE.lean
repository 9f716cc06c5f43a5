/- The walk of FreqWithin. Condition: the row's own bounds on a slice that came in. -/
import Derived.Test.YtplppmgecknhiaaFreqD
import Derived.Test.YtplppmgecknhiaaWalkNumScales
namespace Go.Proofs.Ytplppmgecknhiaa.FreqE
open Go.RowKit Go.Proofs.Ytplppmgecknhiaa.Open Go.Proofs.Ytplppmgecknhiaa.NumD Go.Proofs.Ytplppmgecknhiaa.NumE Go.Proofs.Ytplppmgecknhiaa.Frame Go.Proofs.Ytplppmgecknhiaa.FreqA Go.Proofs.Ytplppmgecknhiaa.FreqB Go.Proofs.Ytplppmgecknhiaa.FreqD
set_option linter.unusedVariables false
set_option linter.unusedSimpArgs false
/-- Set, whatever is set. -/
theorem set_any (w : World) (g : Nat) (lo0 hi0 : Int) (f : FS) (i : Nat) (h : Gov w g lo0 hi0 f i) (rt0 : rightB lo0 hi0 = true) (lo hi : Int) :
    Calls Try.prog 45 #[.pointer (some ⟨g, 0, none⟩), .int .i64 lo, .int .i64 hi] w fun e w' => (∃ c, e = .returned (.int .i64 c)) ∧ ∃ lo' hi', Gov w' g lo' hi' f i ∧ rightB lo' hi' = true ∧ Ch (· = g) w w' := by
  cases rt : rightB lo hi with
  | true => exact (set_ok w g lo0 hi0 f i h lo hi rt).mono fun e w' k => ⟨⟨_, k.1⟩, lo, hi, k.2.1, rt, k.2.2⟩
  | false => exact (set_bad w g lo hi rt).mono fun e w' k => ⟨⟨_, k.1⟩, lo0, hi0, k.2 ▸ h, rt0, k.2 ▸ Ch.refl _ _⟩
theorem freq_is (w : World) (g : Nat) (lo hi : Int) (f : FS) (i : Nat) (h : Gov w g lo hi f i) (ok : f.ok) (rt : rightB lo hi = true) (F : Int) (hF : scaleF lo hi (busyF f) = F) :
    Calls Try.prog 33 #[.pointer (some ⟨g, 0, none⟩)] w fun e w' => e = .returned (.int .i64 F) ∧ Below w.heap.size w w' := by
  rw [← hF]
  exact freq_any w g lo hi f i h ok rt
theorem thenCh {W w w' : World} (hb : Below W.heap.size W w) (c : Ch (· = W.heap.size) w w') : Below W.heap.size W w' := ((Ch.of_below hb).then c (F := (· = W.heap.size)) (fun _ _ e => e)).below (Nat.le_refl _) (by intro k hk e; omega)
set_option maxRecDepth 100000 in
set_option maxHeartbeats 4000000 in
theorem within_walk (W : World) (low : Int) (wl : (Lit.int .i64 low).wf = true) (high : Int) (wh : (Lit.int .i64 high).wf = true) (a : Option Addr) (len cap : Nat) (V : Nat → Nat → Value) (hrow : StructRow W a len ks V) (hcap : len ≤ cap) (hl : len * 24 ≤ 140737488351232) :
    Calls Try.prog 10 #[.int .i64 low, .int .i64 high, .slice a len cap] W fun e W' => e = .returned (.bool true) ∧ Below W.heap.size W W' := by
  have HR := Lib.hid hrow
  clear hrow wl wh
  cases rt : rightB low high with
  | false =>
    have RT := Lib.hid rt
    clear rt
    go_enter Try.func10, Try.ntmps10
    go_wp2_with fail
    refine (new_bad W low high RT.out).mono ?_
    rintro e w1 ⟨rfl, rfl⟩
    go_wp2_with fail
    refine (FreqC.known_ok W).mono ?_
    rintro e w2 ⟨rfl, b2⟩
    go_wp2
    go_returns
    exact ⟨rfl, b2⟩
  | true =>
    have RT := Lib.hid rt
    clear rt
    go_enter Try.func10, Try.ntmps10
    go_wp2_with fail
    refine (new_ok W low high RT.out).mono ?_
    rintro e w1 ⟨rfl, h1, b1⟩
    have H1 := Lib.hid h1
    have B1 := Lib.hid b1
    clear h1 b1
    go_wp2_with fail
    go_loopg [9] len (fun g v wr => ∃ (k : Nat) (lo hi : Int) (f : FS) (i : Nat), k ≤ len ∧ Hid (g + k = len) ∧ v = .int .i64 k ∧ Gov wr W.heap.size lo hi f i ∧ f.ok ∧ i < 4 ∧ Hid (rightB lo hi = true) ∧ Below W.heap.size W wr)
    case atStart => exact ⟨0, _, _, _, 0, Nat.zero_le _, Lib.hid rfl, rfl, H1.out, zero_ok, by omega, RT, B1.out⟩
    case round =>
      obtain ⟨k, lo, hi, f, i, hk, Hg, rfl, hG, hok, hi4, RT2, hB⟩ := hrel
      have HG := Lib.hid hG
      have HB := Lib.hid hB
      have OK := Lib.hid hok
      clear hG hB hok H1 B1
      have hout : (k < len ∧ decide ((k : Int) < 100) = true) ∨ k = len ∨ (k < len ∧ decide ((k : Int) < 100) = false) := by
        by_cases h : k < len
        · by_cases h2 : k < 100
          · exact .inl ⟨h, by simp; omega⟩
          · exact .inr (.inr ⟨h, by simp; omega⟩)
        · exact .inr (.inl (by omega))
      rcases hout with ⟨hlt, d50⟩ | rfl | ⟨hlt, d50⟩
      · obtain ⟨b, off, rfl, hb, hacts⟩ := acts_at HR.out (by omega)
        obtain ⟨e0, e1, e2⟩ := hacts k hlt
        clear hacts
        generalize boolOf (V k 0) = T at *
        generalize numOf (V k 1) = A at *
        generalize numOf (V k 2) = C at *
        replace e0 := (HB.out.cell hb).trans e0
        replace e1 := (HB.out.cell hb).trans e1
        replace e2 := (HB.out.cell hb).trans e2
        have hbz := Nat.lt_of_lt_of_le hb HB.out.size
        cases T
        all_goals
          go_wp2_with fail
          go_still_tail 11, (by kernel_rfl)
          change wpList _ _ _ _ _ wr.drew
          go_wp2_with fail
        · refine (feed_any _ _ lo hi f i (HG.out.below (below_drewN (Below.refl _ _) 1)) OK.out RT2.out hi4 A C).mono ?_
          rintro e w2 ⟨⟨r, c, rfl⟩, f2, i2, h2, ok2, i24, c2⟩
          have HG2 := Lib.hid h2
          have OK2 := Lib.hid ok2
          have HB2 := Lib.hid (thenCh (below_drewN HB.out 1) c2)
          clear h2 ok2 c2
          have q := right_in RT2.out
          obtain ⟨q1, q2, q3⟩ := q
          have q4 := WalkNumScales.scale_bounds lo hi (busyF f2) q3
          obtain ⟨q5, q6⟩ := q4
          obtain ⟨F, hF⟩ : ∃ F, scaleF lo hi (busyF f2) = F := ⟨_, rfl⟩
          rw [hF] at q5 q6
          have HF := Lib.hid hF
          clear hF
          go_wp2_with fail
          refine (limits_any _ _ _ _ _ _ HG2.out).mono ?_
          rintro e w3 ⟨rfl, n3, hn3⟩
          have b3 : Below w2.heap.size w2 w3 := by rw [hn3]; exact below_drewN (Below.refl _ _) _
          have HG3 := Lib.hid (HG2.out.below b3)
          have HB3 := Lib.hid (HB2.out.trans (b3.mono HB2.out.size))
          clear hn3 b3
          go_wp2_with fail
          refine (freq_is _ _ _ _ _ _ HG3.out OK2.out RT2.out F HF.out).mono ?_
          rintro e w4 ⟨rfl, b4⟩
          have HG4 := Lib.hid (HG3.out.below b4)
          have HB4 := Lib.hid (HB3.out.trans (b4.mono HB3.out.size))
          clear b4
          go_wp2_with fail
          refine (freq_is _ _ _ _ _ _ HG4.out OK2.out RT2.out F HF.out).mono ?_
          rintro e w5 ⟨rfl, b5⟩
          have HG5 := Lib.hid (HG4.out.below b5)
          have HB5 := Lib.hid (HB4.out.trans (b5.mono HB4.out.size))
          clear b5
          go_wp2_with fail
          go_roundg (len - (k + 1))
          case measure => have := Hg.out; omega
          case rel => exact ⟨k + 1, lo, hi, f2, i2, by omega, Lib.hid (by omega), rfl, HG5.out, OK2.out, i24, RT2, HB5.out⟩
        · refine (set_any _ _ lo hi f i (HG.out.below (below_drewN (Below.refl _ _) 1)) RT2.out A C).mono ?_
          rintro e w2 ⟨⟨c, rfl⟩, lo2, hi2, h2, rt2, c2⟩
          have HG2 := Lib.hid h2
          have OK2 := OK
          have RT3 := Lib.hid rt2
          have HB2 := Lib.hid (thenCh (below_drewN HB.out 1) c2)
          clear h2 rt2 c2
          have q := right_in RT3.out
          obtain ⟨q1, q2, q3⟩ := q
          have q4 := WalkNumScales.scale_bounds lo2 hi2 (busyF f) q3
          obtain ⟨q5, q6⟩ := q4
          obtain ⟨F, hF⟩ : ∃ F, scaleF lo2 hi2 (busyF f) = F := ⟨_, rfl⟩
          rw [hF] at q5 q6
          have HF := Lib.hid hF
          clear hF
          go_wp2_with fail
          refine (limits_any _ _ _ _ _ _ HG2.out).mono ?_
          rintro e w3 ⟨rfl, n3, hn3⟩
          have b3 : Below w2.heap.size w2 w3 := by rw [hn3]; exact below_drewN (Below.refl _ _) _
          have HG3 := Lib.hid (HG2.out.below b3)
          have HB3 := Lib.hid (HB2.out.trans (b3.mono HB2.out.size))
          clear hn3 b3
          go_wp2_with fail
          refine (freq_is _ _ _ _ _ _ HG3.out OK2.out RT3.out F HF.out).mono ?_
          rintro e w4 ⟨rfl, b4⟩
          have HG4 := Lib.hid (HG3.out.below b4)
          have HB4 := Lib.hid (HB3.out.trans (b4.mono HB3.out.size))
          clear b4
          go_wp2_with fail
          refine (freq_is _ _ _ _ _ _ HG4.out OK2.out RT3.out F HF.out).mono ?_
          rintro e w5 ⟨rfl, b5⟩
          have HG5 := Lib.hid (HG4.out.below b5)
          have HB5 := Lib.hid (HB4.out.trans (b5.mono HB4.out.size))
          clear b5
          go_wp2_with fail
          go_roundg (len - (k + 1))
          case measure => have := Hg.out; omega
          case rel => exact ⟨k + 1, lo2, hi2, f, i, by omega, Lib.hid (by omega), rfl, HG5.out, OK2.out, hi4, RT3, HB5.out⟩
      all_goals
        go_wp2_with fail
        refine (FreqC.known_ok wr).mono ?_
        rintro e w2 ⟨rfl, b2⟩
        go_wp2
        go_returns
        exact ⟨rfl, HB.out.trans (b2.mono HB.out.size)⟩
end Go.Proofs.Ytplppmgecknhiaa.FreqE
