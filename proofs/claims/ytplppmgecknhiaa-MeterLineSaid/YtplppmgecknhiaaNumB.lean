/- math/bits.Div64: a number of two words, the upper one below the divisor, by a divisor below 2^63: the quotient. -/
import Derived.Test.YtplppmgecknhiaaProg
import Derived.Test.YtplppmgecknhiaaShelf
import Derived.Test.YtplppmgecknhiaaNumA
import Derived.WalkKit
import Derived.Handy
import Derived.WalkLawsBesides
import Derived.WalkSpells
import Derived.BigQuiet
import Derived.Deep.QuietTactic
import Derived.Lib.Hide
import Derived.Outline
import Derived.Laws.BitsLemmas
import Derived.Deep.DeepCutAuto
import Derived.Deep.CutBlock
import Derived.Deep.LoopGhost
namespace Go.Proofs.Ytplppmgecknhiaa.NumB
open Go.RowKit Go.Proofs.Ytplppmgecknhiaa.NumA
set_option linter.unusedVariables false

theorem div_low (lo y : Nat) (hy : 0 < y) (hl : lo < 18446744073709551616) (hy2 : y < 18446744073709551616) (w : World) :
    Calls Try.prog 61 #[.int .u64 0, .int .u64 lo, .int .u64 y] w fun e w' => e = .returned (.tuple #[.int .u64 ((lo / y : Nat) : Int), .int .u64 ((lo % y : Nat) : Int)]) ∧ ∃ n, w' = w.drewN n := by
  have b0 : ((y : Int) == 0) = false := by simp; omega
  have b1 : ¬ ((y : Int) ≤ 0) := by omega
  go_enter Try.func61, Try.ntmps61
  go_wp2_with fail
  go_quiet (fail)
  go_wp2
  go_returns
  have e : IntKind.u64.wrap ((lo : Int) / (y : Int)) = ((lo / y : Nat) : Int) := by
    have h : lo / y ≤ lo := Nat.div_le_self _ _
    rw [← Int.natCast_ediv, IntKind.wrap_u64]
    generalize lo / y = z at *
    omega
  simp only [e, Int.natCast_emod]
  exact ⟨rfl, _, rfl⟩

def DivPost (Z : Nat) (w : World) (e : Ending) (w' : World) : Prop := (∃ r : Int, e = .returned (.tuple #[.int .u64 (Z : Int), .int .u64 r])) ∧ w' = w
theorem ret_u {a b : Int} (h : a = b) : Value.int .u64 a = .int .u64 b := by rw [h]
set_option maxRecDepth 100000 in
set_option maxHeartbeats 8000000 in
theorem div_core (hi lo y s v vn1 vn0 u t d1 d0 q0 r0 Q1 u2 q2 r2 Q2 : Nat) (h0 : 0 < hi) (h1 : hi < y) (h2 : y < 9223372036854775808) (hl : lo < 18446744073709551616) (hs : Hid (64 - (Lib.bitLen y : Int) = s)) (hs1 : 1 ≤ s) (hs2 : s ≤ 63)
    (e1 : IntKind.u64.wrap ((y : Int) * 2 ^ s) = (v : Int)) (hvb : v < 18446744073709551616) (e2 : (v : Int) / 4294967296 = (vn1 : Int)) (hv1 : 2147483648 ≤ vn1) (hv2 : vn1 < 4294967296) (e3 : bits .and .u64 (v : Int) 4294967295 = (vn0 : Int)) (hv3 : vn0 < 4294967296)
    (e4 : bits .or .u64 (IntKind.u64.wrap ((hi : Int) * 2 ^ s)) ((lo : Int) / 2 ^ (64 - s)) = (u : Int)) (hu : Hid (u < vn1 * 4294967296 + vn0)) (hub : u < 18446744073709551616) (e5 : IntKind.u64.wrap ((lo : Int) * 2 ^ s) = (t : Int)) (ht : t < 18446744073709551616) (e6 : (t : Int) / 4294967296 = (d1 : Int)) (hd1 : d1 < 4294967296)
    (e7 : bits .and .u64 (t : Int) 4294967295 = (d0 : Int)) (hd0 : d0 < 4294967296) (e8 : IntKind.u64.wrap ((u : Int) / (vn1 : Int)) = (q0 : Int)) (e9 : IntKind.u64.wrap ((u : Int) - IntKind.u64.wrap ((q0 : Int) * (vn1 : Int))) = (r0 : Int))
    (Hq0 : Hid (u = q0 * vn1 + r0)) (HGq0 : Hid (Q1 ≤ q0)) (hq0 : q0 ≤ 4294967297) (hr0 : r0 < 4294967296) (hQ1 : Hid (Q1 = (u * 4294967296 + d1) / (vn1 * 4294967296 + vn0))) (hQ1b : Q1 < 4294967296)
    (e10 : IntKind.u64.wrap (IntKind.u64.wrap (IntKind.u64.wrap ((u : Int) * 4294967296) + (d1 : Int)) - IntKind.u64.wrap ((Q1 : Int) * (v : Int))) = (u2 : Int)) (hu2 : Hid (u2 < vn1 * 4294967296 + vn0)) (e11 : IntKind.u64.wrap ((u2 : Int) / (vn1 : Int)) = (q2 : Int)) (e12 : IntKind.u64.wrap ((u2 : Int) - IntKind.u64.wrap ((q2 : Int) * (vn1 : Int))) = (r2 : Int))
    (Hq2 : Hid (u2 = q2 * vn1 + r2)) (HGq2 : Hid (Q2 ≤ q2)) (hq2 : q2 ≤ 4294967297) (hr2 : r2 < 4294967296) (hQ2 : Hid (Q2 = (u2 * 4294967296 + d0) / (vn1 * 4294967296 + vn0)))
    (Z : Nat) (e13 : IntKind.u64.wrap ((Q1 : Int) * 4294967296 + (Q2 : Int)) = (Z : Int))
    (w : World) :
    Calls Try.prog 61 #[.int .u64 hi, .int .u64 lo, .int .u64 y] w (DivPost Z w) := by
  have b0 : ((y : Int) == 0) = false := by simp; omega
  have b1 : ¬ ((y : Int) ≤ (hi : Int)) := by omega
  have b2 : ((hi : Int) == 0) = false := by simp; omega
  have b3 : ¬ ((vn1 : Int) = 0) := by omega
  go_enter Try.func61, Try.ntmps61
  go_upto_block 0 with (go_at_call 80; refine (Try.bits_LeadingZeros64 _ _ (by omega) (by omega)).mono ?_; rintro e w2 ⟨rfl, hw2⟩; rw [hw2, Int.toNat_natCast, hs.out]; clear hw2)
  clear e1 e2 e3 e4 e5 e6 e7 e8 e9 b0 b1 b2
  go_cut [15] (fun a wc => a = .int .u64 (Q1 : Int) ∧ wc = w)
  case first =>
    clear h2 hl ht hub hvb
    go_wp2_with fail
    go_loopg [15, 16] q0 (fun g a b wr => ∃ q r : Nat, a = .int .u64 (q : Int) ∧ b = .int .u64 (r : Int) ∧ Hid (g = q) ∧ Hid (u = q * vn1 + r) ∧ Hid (Q1 ≤ q) ∧ Hid (q ≤ 4294967297 ∧ r < 4294967296) ∧ wr = w)
    case atStart => exact ⟨q0, r0, rfl, rfl, Lib.hid rfl, Hq0, HGq0, Lib.hid ⟨by omega, by omega⟩, rfl⟩
    case round =>
      obtain ⟨q, r, rfl, rfl, hg, he, hq, hqr, rfl⟩ := hrel
      have hqb := hqr.out.1
      have hrb := hqr.out.2
      clear hqr
      have hcase : 4294967296 ≤ q ∨ (q < 4294967296 ∧ r * 4294967296 + d1 < q * vn0) ∨ (q < 4294967296 ∧ q * vn0 ≤ r * 4294967296 + d1) := by
        generalize q * vn0 = z
        omega
      rcases hcase with hA | ⟨hA, hP⟩ | ⟨hA, hP⟩
      · have hbig : Q1 < q := by
          have := step_big hu.out hd1 he.out (.inl hA)
          rwa [← hQ1.out] at this
        have hE2 : u = (q - 1) * vn1 + (r + vn1) := by
          have h := he.out
          obtain ⟨m, rfl⟩ : ∃ m, q = m + 1 := ⟨q - 1, by omega⟩
          rw [Nat.add_mul] at h
          simp only [Nat.add_sub_cancel]
          omega
        have f1 : (4294967296 : Int) ≤ (q : Int) := by omega
        have f2 : (q : Int) ≤ 4294967297 := by omega
        have f3 : (r : Int) < 4294967296 := by omega
        have f5 : (vn1 : Int) < 4294967296 := by omega
        by_cases hover : 4294967296 ≤ r + vn1
        · have hb3 : q - 1 = Q1 := by
            obtain ⟨o1, o2⟩ := step_over (d := d1) hv3 hu.out hE2 hover
            have o3 := step_fits (d := d1) hu.out hE2 o2
            rw [← hQ1.out] at o3
            have := hbig
            omega
          have HB3 := Lib.hid hb3
          have f4 : (4294967296 : Int) ≤ (r : Int) + (vn1 : Int) := by omega
          clear hb3 hE2 hover hbig
          clear hA hqb hrb hd1 hd0 hv1 hv2 hv3
          go_wp2_with fail
          go_meet
          exact ⟨ret_u (by have := HB3.out; omega), rfl⟩
        · have HE2 := Lib.hid hE2
          have hbig2 := Lib.hid hbig
          have hrb2 := Lib.hid (show r + vn1 < 4294967296 ∧ q - 1 ≤ 4294967297 ∧ 1 ≤ q by omega)
          have f4 : decide ((4294967296 : Int) ≤ (r : Int) + (vn1 : Int)) = false := by rw [decide_eq_false_iff_not]; omega
          clear hE2 hover hbig
          clear hA hqb hrb hd1 hd0 hv1 hv2 hv3
          go_wp2_with fail
          go_roundg (q - 1)
          case measure => have := hg.out; have := hrb2.out; omega
          case rel => exact ⟨q - 1, r + vn1, ret_u (by have := hrb2.out; omega), ret_u (by omega), Lib.hid rfl, HE2, Lib.hid (by have := hbig2.out; omega), Lib.hid ⟨hrb2.out.2.1, hrb2.out.1⟩, rfl⟩
      · have hbig : Q1 < q := by
          have := step_big hu.out hd1 he.out (.inr hP)
          rwa [← hQ1.out] at this
        have hE2 : u = (q - 1) * vn1 + (r + vn1) := by
          have h := he.out
          obtain ⟨m, rfl⟩ : ∃ m, q = m + 1 := ⟨q - 1, by omega⟩
          rw [Nat.add_mul] at h
          simp only [Nat.add_sub_cancel]
          omega
        have hz : q * vn0 ≤ 4294967295 * 4294967295 := Nat.mul_le_mul (by omega) (by omega)
        have p1 : (q : Int) * (vn0 : Int) = ((q * vn0 : Nat) : Int) := by simp
        generalize q * vn0 = z at *
        have p2 : IntKind.u64.wrap (z : Int) = (z : Int) := by rw [IntKind.wrap_u64]; omega
        have f1 : (q : Int) < 4294967296 := by omega
        have f1b : (1 : Int) ≤ (q : Int) := by omega
        have f3 : (r : Int) < 4294967296 := by omega
        have f5 : (vn1 : Int) < 4294967296 := by omega
        have f6 : 4294967296 * (r : Int) + (d1 : Int) < (z : Int) := by omega
        have f7 : (d1 : Int) < 4294967296 := by omega
        by_cases hover : 4294967296 ≤ r + vn1
        · have hb3 : q - 1 = Q1 := by
            obtain ⟨o1, o2⟩ := step_over (d := d1) hv3 hu.out hE2 hover
            have o3 := step_fits (d := d1) hu.out hE2 o2
            rw [← hQ1.out] at o3
            have := hbig
            omega
          have HB3 := Lib.hid hb3
          have f4 : (4294967296 : Int) ≤ (r : Int) + (vn1 : Int) := by omega
          clear hb3 hE2 hover hbig
          clear hA hP hqb hrb hz hd1 hd0 hv1 hv2 hv3
          go_wp2_with fail
          go_meet
          exact ⟨ret_u (by have := HB3.out; omega), rfl⟩
        · have HE2 := Lib.hid hE2
          have hbig2 := Lib.hid hbig
          have hrb2 := Lib.hid (show r + vn1 < 4294967296 ∧ q - 1 ≤ 4294967297 ∧ 1 ≤ q by omega)
          have f4 : decide ((4294967296 : Int) ≤ (r : Int) + (vn1 : Int)) = false := by rw [decide_eq_false_iff_not]; omega
          clear hE2 hover hbig
          clear hA hP hqb hrb hz hd1 hd0 hv1 hv2 hv3
          go_wp2_with fail
          go_roundg (q - 1)
          case measure => have := hg.out; have := hrb2.out; omega
          case rel => exact ⟨q - 1, r + vn1, ret_u (by have := hrb2.out; omega), ret_u (by omega), Lib.hid rfl, HE2, Lib.hid (by have := hbig2.out; omega), Lib.hid ⟨hrb2.out.2.1, hrb2.out.1⟩, rfl⟩
      · have hsm : q = Q1 := by
          have := step_fits hu.out he.out hP
          rw [← hQ1.out] at this
          have := hq.out
          omega
        have HS := Lib.hid hsm
        clear hsm
        have hz : q * vn0 ≤ 4294967295 * 4294967295 := Nat.mul_le_mul (by omega) (by omega)
        have p1 : (q : Int) * (vn0 : Int) = ((q * vn0 : Nat) : Int) := by simp
        generalize q * vn0 = z at *
        have p2 : IntKind.u64.wrap (z : Int) = (z : Int) := by rw [IntKind.wrap_u64]; omega
        have f1 : decide ((4294967296 : Int) ≤ (q : Int)) = false := by rw [decide_eq_false_iff_not]; omega
        have f3 : (r : Int) < 4294967296 := by omega
        have f6 : decide (4294967296 * (r : Int) + (d1 : Int) < (z : Int)) = false := by rw [decide_eq_false_iff_not]; omega
        have f7 : (d1 : Int) < 4294967296 := by omega
        clear hA hP hqb hrb hz hd1 hd0 hv1 hv2 hv3
        go_wp2_with fail
        go_meet
        exact ⟨ret_u (by have := HS.out; omega), rfl⟩
  case rest =>
    obtain ⟨rfl, rfl⟩ := hcut
    clear b3
    have b3 : ¬ ((vn1 : Int) = 0) := by omega
    go_upto_block 2 with fail
    go_cut [18] (fun a wx => a = .int .u64 (Q2 : Int) ∧ wx = wc)
    case first =>
      clear h2 hl ht hub hvb e10 e11 e12 e13
      go_wp2_with fail
      go_loopg [18, 16] q2 (fun g a b wr => ∃ q r : Nat, a = .int .u64 (q : Int) ∧ b = .int .u64 (r : Int) ∧ Hid (g = q) ∧ Hid (u2 = q * vn1 + r) ∧ Hid (Q2 ≤ q) ∧ Hid (q ≤ 4294967297 ∧ r < 4294967296) ∧ wr = wc)
      case atStart => exact ⟨q2, r2, rfl, rfl, Lib.hid rfl, Hq2, HGq2, Lib.hid ⟨by omega, by omega⟩, rfl⟩
      case round =>
        obtain ⟨q, r, rfl, rfl, hg, he, hq, hqr, rfl⟩ := hrel
        have hqb := hqr.out.1
        have hrb := hqr.out.2
        clear hqr
        have hcase : 4294967296 ≤ q ∨ (q < 4294967296 ∧ r * 4294967296 + d0 < q * vn0) ∨ (q < 4294967296 ∧ q * vn0 ≤ r * 4294967296 + d0) := by
          generalize q * vn0 = z
          omega
        rcases hcase with hA | ⟨hA, hP⟩ | ⟨hA, hP⟩
        · have hbig : Q2 < q := by
            have := step_big hu2.out hd0 he.out (.inl hA)
            rwa [← hQ2.out] at this
          have hE2 : u2 = (q - 1) * vn1 + (r + vn1) := by
            have h := he.out
            obtain ⟨m, rfl⟩ : ∃ m, q = m + 1 := ⟨q - 1, by omega⟩
            rw [Nat.add_mul] at h
            simp only [Nat.add_sub_cancel]
            omega
          have f1 : (4294967296 : Int) ≤ (q : Int) := by omega
          have f2 : (q : Int) ≤ 4294967297 := by omega
          have f3 : (r : Int) < 4294967296 := by omega
          have f5 : (vn1 : Int) < 4294967296 := by omega
          by_cases hover : 4294967296 ≤ r + vn1
          · have hb3 : q - 1 = Q2 := by
              obtain ⟨o1, o2⟩ := step_over (d := d0) hv3 hu2.out hE2 hover
              have o3 := step_fits (d := d0) hu2.out hE2 o2
              rw [← hQ2.out] at o3
              have := hbig
              omega
            have HB3 := Lib.hid hb3
            have f4 : (4294967296 : Int) ≤ (r : Int) + (vn1 : Int) := by omega
            clear hb3 hE2 hover hbig
            clear hA hqb hrb hd1 hd0 hv1 hv2 hv3
            go_wp2_with fail
            go_meet
            exact ⟨ret_u (by have := HB3.out; omega), rfl⟩
          · have HE2 := Lib.hid hE2
            have hbig2 := Lib.hid hbig
            have hrb2 := Lib.hid (show r + vn1 < 4294967296 ∧ q - 1 ≤ 4294967297 ∧ 1 ≤ q by omega)
            have f4 : decide ((4294967296 : Int) ≤ (r : Int) + (vn1 : Int)) = false := by rw [decide_eq_false_iff_not]; omega
            clear hE2 hover hbig
            clear hA hqb hrb hd1 hd0 hv1 hv2 hv3
            go_wp2_with fail
            go_roundg (q - 1)
            case measure => have := hg.out; have := hrb2.out; omega
            case rel => exact ⟨q - 1, r + vn1, ret_u (by have := hrb2.out; omega), ret_u (by omega), Lib.hid rfl, HE2, Lib.hid (by have := hbig2.out; omega), Lib.hid ⟨hrb2.out.2.1, hrb2.out.1⟩, rfl⟩
        · have hbig : Q2 < q := by
            have := step_big hu2.out hd0 he.out (.inr hP)
            rwa [← hQ2.out] at this
          have hE2 : u2 = (q - 1) * vn1 + (r + vn1) := by
            have h := he.out
            obtain ⟨m, rfl⟩ : ∃ m, q = m + 1 := ⟨q - 1, by omega⟩
            rw [Nat.add_mul] at h
            simp only [Nat.add_sub_cancel]
            omega
          have hz : q * vn0 ≤ 4294967295 * 4294967295 := Nat.mul_le_mul (by omega) (by omega)
          have p1 : (q : Int) * (vn0 : Int) = ((q * vn0 : Nat) : Int) := by simp
          generalize q * vn0 = z at *
          have p2 : IntKind.u64.wrap (z : Int) = (z : Int) := by rw [IntKind.wrap_u64]; omega
          have f1 : (q : Int) < 4294967296 := by omega
          have f1b : (1 : Int) ≤ (q : Int) := by omega
          have f3 : (r : Int) < 4294967296 := by omega
          have f5 : (vn1 : Int) < 4294967296 := by omega
          have f6 : 4294967296 * (r : Int) + (d0 : Int) < (z : Int) := by omega
          have f7 : (d0 : Int) < 4294967296 := by omega
          by_cases hover : 4294967296 ≤ r + vn1
          · have hb3 : q - 1 = Q2 := by
              obtain ⟨o1, o2⟩ := step_over (d := d0) hv3 hu2.out hE2 hover
              have o3 := step_fits (d := d0) hu2.out hE2 o2
              rw [← hQ2.out] at o3
              have := hbig
              omega
            have HB3 := Lib.hid hb3
            have f4 : (4294967296 : Int) ≤ (r : Int) + (vn1 : Int) := by omega
            clear hb3 hE2 hover hbig
            clear hA hP hqb hrb hz hd1 hd0 hv1 hv2 hv3
            go_wp2_with fail
            go_meet
            exact ⟨ret_u (by have := HB3.out; omega), rfl⟩
          · have HE2 := Lib.hid hE2
            have hbig2 := Lib.hid hbig
            have hrb2 := Lib.hid (show r + vn1 < 4294967296 ∧ q - 1 ≤ 4294967297 ∧ 1 ≤ q by omega)
            have f4 : decide ((4294967296 : Int) ≤ (r : Int) + (vn1 : Int)) = false := by rw [decide_eq_false_iff_not]; omega
            clear hE2 hover hbig
            clear hA hP hqb hrb hz hd1 hd0 hv1 hv2 hv3
            go_wp2_with fail
            go_roundg (q - 1)
            case measure => have := hg.out; have := hrb2.out; omega
            case rel => exact ⟨q - 1, r + vn1, ret_u (by have := hrb2.out; omega), ret_u (by omega), Lib.hid rfl, HE2, Lib.hid (by have := hbig2.out; omega), Lib.hid ⟨hrb2.out.2.1, hrb2.out.1⟩, rfl⟩
        · have hsm : q = Q2 := by
            have := step_fits hu2.out he.out hP
            rw [← hQ2.out] at this
            have := hq.out
            omega
          have HS := Lib.hid hsm
          clear hsm
          have hz : q * vn0 ≤ 4294967295 * 4294967295 := Nat.mul_le_mul (by omega) (by omega)
          have p1 : (q : Int) * (vn0 : Int) = ((q * vn0 : Nat) : Int) := by simp
          generalize q * vn0 = z at *
          have p2 : IntKind.u64.wrap (z : Int) = (z : Int) := by rw [IntKind.wrap_u64]; omega
          have f1 : decide ((4294967296 : Int) ≤ (q : Int)) = false := by rw [decide_eq_false_iff_not]; omega
          have f3 : (r : Int) < 4294967296 := by omega
          have f6 : decide (4294967296 * (r : Int) + (d0 : Int) < (z : Int)) = false := by rw [decide_eq_false_iff_not]; omega
          have f7 : (d0 : Int) < 4294967296 := by omega
          clear hA hP hqb hrb hz hd1 hd0 hv1 hv2 hv3
          go_wp2_with fail
          go_meet
          exact ⟨ret_u (by have := HS.out; omega), rfl⟩
  
    case rest =>
      obtain ⟨rfl, rfl⟩ := hcut
      clear h2 hl ht hub hvb e10 e11 e12
      go_wp2
      go_returns
      exact ⟨⟨_, rfl⟩, rfl⟩
end Go.Proofs.Ytplppmgecknhiaa.NumB
