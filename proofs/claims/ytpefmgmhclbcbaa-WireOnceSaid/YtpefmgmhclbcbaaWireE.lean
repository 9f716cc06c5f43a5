/- The contract of the reader's number of layer 26. -/
import Derived.Test.YtpefmgmhclbcbaaWireD
import Derived.Laws.BitsAllLaws
import Derived.Laws.BitsLemmas
namespace Go.Proofs.Ytpefmgmhclbcbaa.WireE
open Go.RowKit Go.Proofs.Ytpefmgmhclbcbaa.Frame Go.Proofs.Ytpefmgmhclbcbaa.WireA Go.Proofs.Ytpefmgmhclbcbaa.WireB Go.Proofs.Ytpefmgmhclbcbaa.WireC Go.Proofs.Ytpefmgmhclbcbaa.WireD
set_option linter.unusedVariables false
set_option linter.unusedSimpArgs false
theorem nxF_len (m : Nat) (s : Rd) : (nxF m s).1.length = m := by
  unfold nxF
  split
  · split
    · simp
    · rw [List.length_take]; omega
  · simp
theorem zeros_isB (m : Nat) : IsB (List.replicate m 0) := fun b hb => by
  have := List.eq_of_mem_replicate hb
  omega
theorem nxF_isB {s : Rd} (h : IsB s.l) (m : Nat) : IsB (nxF m s).1 ∧ IsB (nxF m s).2.l := by
  unfold nxF
  split
  · split
    · exact ⟨zeros_isB m, h⟩
    · exact ⟨fun b hb => h b (List.mem_of_mem_take hb), fun b hb => h b (List.mem_of_mem_drop hb)⟩
  · exact ⟨zeros_isB m, h⟩
theorem nx1_list (s : Rd) : (nxF 1 s).1 = [(nx1 s).1] := by
  have := nxF_len 1 s
  unfold nx1
  match h : (nxF 1 s).1 with
  | [] => rw [h] at this; cases this
  | [b] => rfl
  | _ :: _ :: _ => rw [h] at this; simp at this
theorem nx1_isB {s : Rd} (h : IsB s.l) : 0 ≤ (nx1 s).1 ∧ (nx1 s).1 ≤ 255 := by
  have := (nxF_isB h 1).1 (nx1 s).1 (by rw [nx1_list]; exact List.mem_singleton.2 rfl)
  exact this
theorem sx_wrap (b : Int) (h : 0 ≤ b ∧ b ≤ 255) : sx b = IntKind.i8.wrap b := by
  have e : IntKind.i8.wrap b = (if b % 256 ≥ 128 then b % 256 - 256 else b % 256) := by simp [IntKind.wrap, IntKind.bits, IntKind.signed]
  rw [e]
  unfold sx
  split <;> split <;> omega
theorem or_low (a c : Int) (ha : a % 256 = 0) (hr : -9223372036854775808 ≤ a ∧ a ≤ 9223372036854775552) (hc : 0 ≤ c ∧ c ≤ 255) : bits .or .i64 a c = a + c := by
  show IntKind.i64.wrap ((BitVec.ofInt 64 a ||| BitVec.ofInt 64 c).toNat : Int) = _
  rw [BitVec.toNat_or]
  have e1 : (BitVec.ofInt 64 a).toNat = (a % 18446744073709551616).toNat := by rw [BitVec.toNat_ofInt]; rfl
  have e2 : (BitVec.ofInt 64 c).toNat = c.toNat := by rw [BitVec.toNat_ofInt]; have : (c % ((2 ^ 64 : Nat) : Int)) = c := by { have : ((2 ^ 64 : Nat) : Int) = 18446744073709551616 := rfl; omega }; rw [this]
  rw [e1, e2]
  obtain ⟨q, hq⟩ : ∃ q : Nat, (a % 18446744073709551616).toNat = q <<< 8 := ⟨(a % 18446744073709551616).toNat / 256, by rw [Nat.shiftLeft_eq]; omega⟩
  rw [hq, ← Nat.shiftLeft_add_eq_or_of_lt (by show c.toNat < 256; omega), ← hq, IntKind.wrap_i64]
  omega
theorem next1 (w : World) (rb H : Nat) (s : Rd) (h : RdAt w rb H s) : Calls Try.prog 58 #[.pointer (some ⟨rb, 0, none⟩), .int .i64 1] w fun e w' =>
    ∃ b off, e = .returned (.slice (some ⟨b, off, none⟩) 1 1) ∧ w'.cell? ⟨b, off, none⟩ = some (.int .u8 (nx1 s).1) ∧ RdAt w' rb H (nx1 s).2 ∧ Ch (· = rb) w w' :=
  (next_any w rb H 1 s h (by omega) (by omega)).mono fun e w' ⟨a, he, hB, hR, hC⟩ => by
    rw [nx1_list] at he hB
    obtain ⟨b, off, rfl, _, hall⟩ := hB.2.2 (by simp)
    exact ⟨b, off, he, hall 0 _ rfl, hR, hC⟩
theorem nextm (w : World) (rb H m : Nat) (s : Rd) (h : RdAt w rb H s) (h1 : 1 ≤ m) (h8 : m ≤ 8) : Calls Try.prog 58 #[.pointer (some ⟨rb, 0, none⟩), .int .i64 m] w fun e w' =>
    ∃ b off, e = .returned (.slice (some ⟨b, off, none⟩) m m) ∧ (∀ i x, (nxF m s).1[i]? = some x → w'.cell? ⟨b, off + i, none⟩ = some (.int .u8 x)) ∧ RdAt w' rb H (nxF m s).2 ∧ Ch (· = rb) w w' :=
  (next_any w rb H m s h h1 h8).mono fun e w' ⟨a, he, hB, hR, hC⟩ => by
    rw [nxF_len] at he hB
    obtain ⟨b, off, rfl, _, hall⟩ := hB.2.2 (by intro e; have := nxF_len m s; rw [e] at this; simp at this; omega)
    exact ⟨b, off, he, hall, hR, hC⟩
theorem decF_bd2 (b : Int) (l : List Int) (h : IsB (b :: l)) (hl : l.length ≤ 6) : -36028797018963968 ≤ decF (sx b) l ∧ decF (sx b) l ≤ 36028797018963967 := by
  have := fits_le (k := 7) (by simp; omega) (dec_fits b l h)
  rw [fits_iff, p8_7] at this
  have e : dec (b :: l) = decF (sx b) l := rfl
  rw [e] at this
  omega
theorem decF_snoc (l : List Int) (x : Int) : ∀ acc, decF acc (l ++ [x]) = decF acc l * 256 + x := by
  induction l with
  | nil => intro acc; rfl
  | cons b t ih => intro acc; exact ih _
set_option maxHeartbeats 4000000 in
theorem number_any (w : World) (rb H : Nat) (s : Rd) (h : RdAt w rb H s) (hb : IsB s.l) : Calls Try.prog 60 #[.pointer (some ⟨rb, 0, none⟩)] w (After w rb H (number s).2 (.int .i64 (number s).1)) := by
  have HR := Lib.hid h
  have HB := Lib.hid hb
  clear h hb
  go_enter Try.func60, Try.ntmps60
  go_wp2_with fail
  refine (next1 w rb H s HR.out).mono ?_
  rintro e w1 ⟨b1, o1, rfl, hc1, hR1, hC1⟩
  have hk := nx1_isB HB.out
  have HK : Hid (okK (nx1 s).1 = (decide (1 ≤ (nx1 s).1) && decide ((nx1 s).1 ≤ 8))) := Lib.hid (by unfold okK; rw [Bool.eq_iff_iff]; simp)
  have HN : Hid (number s = if (chk (nx1 s).2 (okK (nx1 s).1)).why = 0 then numTail (nx1 s).1.toNat (chk (nx1 s).2 (okK (nx1 s).1)) else (0, chk (nx1 s).2 (okK (nx1 s).1))) := Lib.hid rfl
  have HB1 : Hid (IsB (nx1 s).2.l) := Lib.hid (nxF_isB HB.out 1).2
  have HR1 := Lib.hid hR1
  have HC1 := Lib.hid hC1
  clear hR1 hC1
  generalize (nx1 s).1 = k at *
  generalize (nx1 s).2 = s1 at *
  have hbad : ∀ s2 : Rd, (chk s2 false).why ≠ 0 := fun s2 => by
    unfold chk
    by_cases e : s2.why = 0
    · rw [if_pos ⟨e, rfl⟩]; show (13 : Int) ≠ 0; decide
    · rw [if_neg (fun x => e x.1)]; exact e
  rcases (by omega : k < 1 ∨ (8 < k ∧ 1 ≤ k) ∨ (1 ≤ k ∧ k ≤ 8)) with hlt | ⟨hgt, hge⟩ | ⟨hge, hle⟩
  · have HK2 : Hid (okK k = false) := Lib.hid (by rw [HK.out]; simp; omega)
    have HN2 : Hid (number s = (0, chk s1 false)) := Lib.hid (by rw [HN.out, HK2.out, if_neg (hbad s1)])
    have hn := hbad s1
    clear HN HK hbad
    go_wp2_with fail
    refine (check_any w1 rb H s1 HR1.out false).mono ?_
    rintro e w2 ⟨rfl, hR2, hC2⟩
    have hw2 := hR2.why
    have hn2 : ((chk s1 false).why == 0) = false := by simpa using hn
    have HR2 := Lib.hid hR2
    clear hR2 hn
    generalize chk s1 false = s2 at *
    go_wp2
    go_returns
    unfold After; rw [HN2.out]; exact ⟨rfl, HR2.out, HC1.out.trans hC2⟩
  · have HK2 : Hid (okK k = false) := Lib.hid (by rw [HK.out]; simp; omega)
    have HN2 : Hid (number s = (0, chk s1 false)) := Lib.hid (by rw [HN.out, HK2.out, if_neg (hbad s1)])
    have hn := hbad s1
    clear HN HK hbad
    have hd : decide (k ≤ 8) = false := decide_eq_false (by omega)
    go_wp2_with fail
    refine (check_any w1 rb H s1 HR1.out false).mono ?_
    rintro e w2 ⟨rfl, hR2, hC2⟩
    have hw2 := hR2.why
    have hn2 : ((chk s1 false).why == 0) = false := by simpa using hn
    have HR2 := Lib.hid hR2
    clear hR2 hn
    generalize chk s1 false = s2 at *
    go_wp2
    go_returns
    unfold After; rw [HN2.out]; exact ⟨rfl, HR2.out, HC1.out.trans hC2⟩
  · have HK2 : Hid (okK k = true) := Lib.hid (by rw [HK.out]; simp; omega)
    clear hbad HK
    go_wp2_with fail
    refine (check_any w1 rb H s1 HR1.out true).mono ?_
    rintro e w2 ⟨rfl, hR2, hC2⟩
    rw [chk_ok] at hR2
    by_cases hz : s1.why = 0
    · obtain ⟨m, rfl⟩ : ∃ m : Nat, k = m := ⟨k.toNat, by omega⟩
      have HN2 : Hid (number s = numTail m s1) := Lib.hid (by rw [HN.out, HK2.out, chk_ok, if_pos hz, Int.toNat_natCast])
      have hw2 := hR2.why
      rw [hz] at hw2
      have HR2 := Lib.hid hR2
      have HC2 := Lib.hid (HC1.out.trans hC2)
      clear HN HK2 hR2 hC2 hz
      go_wp2_with fail
      refine (nextm w2 rb H m s1 HR2.out (by omega) (by omega)).mono ?_
      rintro e w3 ⟨b2, o2, rfl, hcells, hR3, hC3⟩
      have HR3 := Lib.hid hR3
      have HC3 := Lib.hid (HC2.out.trans hC3)
      have HI := Lib.hid (nxF_isB HB1.out m).1
      have HL := Lib.hid (nxF_len m s1)
      have HT : Hid (numTail m s1 = (dec (nxF m s1).1, chk (nxF m s1).2 (okN (dec (nxF m s1).1) m))) := Lib.hid rfl
      clear hR3 hC3
      generalize (nxF m s1).2 = s3 at *
      generalize (nxF m s1).1 = l at *
      cases l with
      | nil => exfalso; have := HL.out; simp at this; omega
      | cons b0 t =>
        have hm : t.length + 1 = m := HL.out
        have hb0 := HI.out b0 List.mem_cons_self
        have hc0 : w3.cell? ⟨b2, o2, none⟩ = some (.int .u8 b0) := hcells 0 b0 rfl
        have HCL : Hid (∀ i x, t[i]? = some x → w3.cell? ⟨b2, o2 + 1 + i, none⟩ = some (.int .u8 x)) := Lib.hid (fun i x hx => by
          have := hcells (i + 1) x (by simpa using hx)
          rwa [show o2 + (i + 1) = o2 + 1 + i from by omega] at this)
        have HSX : Hid (wrap64 (IntKind.i8.wrap b0) = sx b0) := Lib.hid (by rw [← sx_wrap b0 hb0]; unfold sx wrap64; split <;> omega)
        clear hcells
        have c1 : (1 : Int) ≤ m := hge
        by_cases h1 : m = 1
        · have ht0 : t.length = 0 := by omega
          subst h1
          go_wp2_with fail
          go_loop [5, 37] (fun n i => ∃ j : Nat, j ≤ t.length ∧ i = .int .i64 j ∧ n = .int .i64 (decF (sx b0) (t.take j))) (fun _ i => t.length - (intOf i).toNat)
          case atStart => exact ⟨0, Nat.zero_le _, rfl, by rw [HSX.out]; rfl⟩
          case round =>
            obtain ⟨j, hj, rfl, rfl⟩ := hrel
            by_cases hlt : j < t.length
            · omega
            · obtain rfl : j = t.length := by omega
              have hdec : decF (sx b0) (t.take t.length) = dec (b0 :: t) := by rw [List.take_length]; rfl
              have HIN : Hid (In64 (dec (b0 :: t))) := Lib.hid (dec_in64 b0 t HI.out (by omega))
              have HO : Hid (okN (dec (b0 :: t)) 1 = (decide (dec (b0 :: t) ≠ 0) && decide (width (dec (b0 :: t)) = 1))) := Lib.hid (by unfold okN; rw [Bool.eq_iff_iff]; simp)
              rw [hdec]
              clear hdec hb0 hc0 hc1 hj hlt
              generalize dec (b0 :: t) = d at *
              by_cases hd0 : d = 0
              · have HO2 : Hid (okN d 1 = false) := Lib.hid (by rw [HO.out, hd0]; rfl)
                subst hd0
                go_wp2_with fail
                refine (check_any w3 rb H s3 HR3.out false).mono ?_
                rintro e w4 ⟨rfl, hR4, hC4⟩
                go_wp2
                go_returns
                unfold After; rw [HN2.out, HT.out, HO2.out]; exact ⟨rfl, hR4, HC3.out.trans hC4⟩
              · have hd1 : (d != 0) = true := by simpa using hd0
                by_cases hw : width d = 1
                · have HO2 : Hid (okN d 1 = true) := Lib.hid (by rw [HO.out]; simp [hd0, hw])
                  have hq : ((width d : Int) == (1 : Int)) = true := beq_iff_eq.2 (by omega)
                  have HQ := Lib.hid hq
                  clear hd0 hw hq
                  go_wp2_with fail
                  refine (width_any d HIN.out _).mono ?_
                  rintro e w' ⟨rfl, rfl⟩
                  have hq := HQ.out
                  go_wp2_with fail
                  refine (check_any w3 rb H s3 HR3.out true).mono ?_
                  rintro e w4 ⟨rfl, hR4, hC4⟩
                  clear hq
                  go_wp2
                  go_returns
                  unfold After; rw [HN2.out, HT.out, HO2.out]; exact ⟨rfl, hR4, HC3.out.trans hC4⟩
                · have HO2 : Hid (okN d 1 = false) := Lib.hid (by rw [HO.out]; simp [hd0, hw])
                  have hq : ((width d : Int) == (1 : Int)) = false := by simpa using fun e => hw (by omega)
                  have HQ := Lib.hid hq
                  clear hd0 hw hq
                  go_wp2_with fail
                  refine (width_any d HIN.out _).mono ?_
                  rintro e w' ⟨rfl, rfl⟩
                  have hq := HQ.out
                  go_wp2_with fail
                  refine (check_any w3 rb H s3 HR3.out false).mono ?_
                  rintro e w4 ⟨rfl, hR4, hC4⟩
                  clear hq
                  go_wp2
                  go_returns
                  unfold After; rw [HN2.out, HT.out, HO2.out]; exact ⟨rfl, hR4, HC3.out.trans hC4⟩
        · have hm1 : m - 1 = t.length := by omega
          go_wp2_with fail
          clear hm1 h1
          go_loop [5, 37] (fun n i => ∃ j : Nat, j ≤ t.length ∧ i = .int .i64 j ∧ n = .int .i64 (decF (sx b0) (t.take j))) (fun _ i => t.length - (intOf i).toNat)
          case atStart => exact ⟨0, Nat.zero_le _, rfl, by rw [HSX.out]; rfl⟩
          case round =>
            obtain ⟨j, hj, rfl, rfl⟩ := hrel
            by_cases hlt : j < t.length
            · have hx : t[j]? = some t[j] := List.getElem?_eq_getElem hlt
              have hcell : w3.cell? ⟨b2, o2 + 1 + j, none⟩ = some (.int .u8 t[j]) := HCL.out j _ hx
              have hxb := HI.out t[j] (List.mem_cons_of_mem _ (List.getElem_mem hlt))
              have hbd := decF_bd2 b0 (t.take j) (fun y hy => HI.out y (by rcases List.mem_cons.1 hy with rfl | hy; exact List.mem_cons_self; exact List.mem_cons_of_mem _ (List.mem_of_mem_take hy))) (by rw [List.length_take]; omega)
              have HS : Hid (decF (sx b0) (t.take (j + 1)) = decF (sx b0) (t.take j) * 256 + t[j]) := Lib.hid (by rw [List.take_succ_eq_append_getElem hlt, decF_snoc])
              have hor := or_low (decF (sx b0) (t.take j) * 256) t[j] (by omega) (by omega) hxb
              generalize decF (sx b0) (t.take j) = v at *
              generalize t[j] = x at *
              obtain ⟨hb1, hb2⟩ := hbd
              obtain ⟨hx1, hx2⟩ := hxb
              clear hx
              go_wp2
              go_round
              case rel => exact ⟨j + 1, by omega, by go_num, by rw [HS.out]⟩
              case measure => simp [intOf]; omega
            · obtain rfl : j = t.length := by omega
              have hdec : decF (sx b0) (t.take t.length) = dec (b0 :: t) := by rw [List.take_length]; rfl
              have HIN : Hid (In64 (dec (b0 :: t))) := Lib.hid (dec_in64 b0 t HI.out (by omega))
              have HO : Hid (okN (dec (b0 :: t)) m = (decide (dec (b0 :: t) ≠ 0) && decide (width (dec (b0 :: t)) = m))) := Lib.hid (by unfold okN; rw [Bool.eq_iff_iff]; simp)
              rw [hdec]
              clear hdec hb0 hc0 hc1 hj hlt
              generalize dec (b0 :: t) = d at *
              by_cases hd0 : d = 0
              · have HO2 : Hid (okN d m = false) := Lib.hid (by rw [HO.out, hd0]; rfl)
                subst hd0
                go_wp2_with fail
                refine (check_any w3 rb H s3 HR3.out false).mono ?_
                rintro e w4 ⟨rfl, hR4, hC4⟩
                go_wp2
                go_returns
                unfold After; rw [HN2.out, HT.out, HO2.out]; exact ⟨rfl, hR4, HC3.out.trans hC4⟩
              · have hd1 : (d != 0) = true := by simpa using hd0
                by_cases hw : width d = m
                · have HO2 : Hid (okN d m = true) := Lib.hid (by rw [HO.out]; simp [hd0, hw])
                  have hq : ((width d : Int) == (m : Int)) = true := beq_iff_eq.2 (by omega)
                  have HQ := Lib.hid hq
                  clear hd0 hw hq
                  go_wp2_with fail
                  refine (width_any d HIN.out _).mono ?_
                  rintro e w' ⟨rfl, rfl⟩
                  have hq := HQ.out
                  go_wp2_with fail
                  refine (check_any w3 rb H s3 HR3.out true).mono ?_
                  rintro e w4 ⟨rfl, hR4, hC4⟩
                  clear hq
                  go_wp2
                  go_returns
                  unfold After; rw [HN2.out, HT.out, HO2.out]; exact ⟨rfl, hR4, HC3.out.trans hC4⟩
                · have HO2 : Hid (okN d m = false) := Lib.hid (by rw [HO.out]; simp [hd0, hw])
                  have hq : ((width d : Int) == (m : Int)) = false := by simpa using fun e => hw (by omega)
                  have HQ := Lib.hid hq
                  clear hd0 hw hq
                  go_wp2_with fail
                  refine (width_any d HIN.out _).mono ?_
                  rintro e w' ⟨rfl, rfl⟩
                  have hq := HQ.out
                  go_wp2_with fail
                  refine (check_any w3 rb H s3 HR3.out false).mono ?_
                  rintro e w4 ⟨rfl, hR4, hC4⟩
                  clear hq
                  go_wp2
                  go_returns
                  unfold After; rw [HN2.out, HT.out, HO2.out]; exact ⟨rfl, hR4, HC3.out.trans hC4⟩
    · have hn2 : (s1.why == 0) = false := by simpa using hz
      have HN2 : Hid (number s = (0, s1)) := Lib.hid (by rw [HN.out, HK2.out, chk_ok, if_neg hz])
      have hw2 := hR2.why
      have HR2 := Lib.hid hR2
      clear HN HK2 hR2 hz
      go_wp2
      go_returns
      unfold After; rw [HN2.out]; exact ⟨rfl, HR2.out, HC1.out.trans hC2⟩
end Go.Proofs.Ytpefmgmhclbcbaa.WireE
