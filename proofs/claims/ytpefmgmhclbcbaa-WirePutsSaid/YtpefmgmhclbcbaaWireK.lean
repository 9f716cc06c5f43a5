/- Contracts of the document's layer 26: fields, Put, All. -/
import Derived.Test.YtpefmgmhclbcbaaWireJ
namespace Go.Proofs.Ytpefmgmhclbcbaa.WireK
open Go.RowKit Go.Proofs.Ytpefmgmhclbcbaa.Frame Go.Proofs.Ytpefmgmhclbcbaa.WireA Go.Proofs.Ytpefmgmhclbcbaa.WireB Go.Proofs.Ytpefmgmhclbcbaa.WireC Go.Proofs.Ytpefmgmhclbcbaa.WireD Go.Proofs.Ytpefmgmhclbcbaa.WireE Go.Proofs.Ytpefmgmhclbcbaa.WireF Go.Proofs.Ytpefmgmhclbcbaa.WireG Go.Proofs.Ytpefmgmhclbcbaa.WireH Go.Proofs.Ytpefmgmhclbcbaa.WireI Go.Proofs.Ytpefmgmhclbcbaa.WireJ
set_option linter.unusedVariables false
set_option linter.unusedSimpArgs false
theorem fields_any (kind cpu id mask n : Int) (w : World) :
    Calls Try.prog 64 #[.agg #[.int .i64 kind, .int .i64 cpu, .int .i64 id, .int .u64 mask, .int .i64 n]] w fun e w' =>
      ∃ fb, e = .returned (.slice (some ⟨fb, 0, none⟩) 4 4) ∧ fb < w'.heap.size ∧ (∀ i, i < 4 → w'.cell? ⟨fb, i, none⟩ = some (.int .i64 (nsOf cpu id mask n i))) ∧ Below w.heap.size w w' := by
  have HS : Hid (wrap64 mask = s64 mask) := Lib.hid rfl
  go_enter Try.func64, Try.ntmps64
  go_wp2
  go_returns
  refine ⟨w.heap.size + 1, rfl, by simp, fun i hi => ?_, by go_grown⟩
  rcases (by omega : i = 0 ∨ i = 1 ∨ i = 2 ∨ i = 3) with rfl | rfl | rfl | rfl <;> go_simp <;> rfl
theorem put_no (e : EvI) (w : World) (hk : e.k < 1 ∨ 30 < e.k) : Calls Try.prog 32 #[.agg #[.int .i64 e.k, .int .i64 e.cpu, .int .i64 e.id, .int .u64 e.mask, .int .i64 e.n]] w (Put w []) := by
  rcases hk with h | h
  all_goals
    go_enter Try.func32, Try.ntmps32
    go_wp2
    go_returns
    exact ⟨_, rfl, OwnB.nil _ _, by go_grown⟩
theorem cell_below {w w' : World} {B b o : Nat} {v : Value} (hb : Below B w w') (hl : b < B) (h : w.cell? ⟨b, o, none⟩ = some v) : w'.cell? ⟨b, o, none⟩ = some v := (hb.cell (p := ⟨b, o, none⟩) hl).trans h
set_option maxRecDepth 100000 in
set_option maxHeartbeats 4000000 in
theorem put_yes (k cpu id mask n : Int) (w : World) (h1 : 1 ≤ k) (h2 : k ≤ 30) (hn : ∀ i, i < 4 → In64 (nsOf cpu id mask n i)) :
    Calls Try.prog 32 #[.agg #[.int .i64 k, .int .i64 cpu, .int .i64 id, .int .u64 mask, .int .i64 n]] w (Put w (putL k (nsOf cpu id mask n))) := by
  have HN := Lib.hid hn
  have HP : Hid (putL k (nsOf cpu id mask n) = k :: whichN (nsOf cpu id mask n) 4 :: bodyN (nsOf cpu id mask n) 4) := Lib.hid (if_pos ⟨h1, h2⟩)
  clear hn
  go_enter Try.func32, Try.ntmps32
  go_wp2_with fail
  refine (fields_any _ _ _ _ _ _).mono ?_
  rintro e w1 ⟨fb, rfl, hfb, hcells, hb1⟩
  have hW1 : Below w.heap.size w w1 := ((Below.refl _ _).alloc (Nat.le_refl _) _).trans (hb1.mono (by simp))
  have hx0 : w1.cell? ⟨w.heap.size, 0, none⟩ = some (.int .i64 k) := keepcell hb1 (by go_simp)
  have hz1 : w.heap.size < w1.heap.size := by have := hb1.size; simp at this; omega
  have HW1 := Lib.hid hW1
  have HX := Lib.hid hx0
  have HC := Lib.hid hcells
  clear hb1 hW1 hcells hx0
  generalize hns : nsOf cpu id mask n = ns at *
  clear hns
  go_wp2_with fail
  go_loopw [4, 5, 6] (fun u v c wr => ∃ i : Nat, i ≤ 4 ∧ c = .int .i64 i ∧ u = .int .u8 (whichN ns i) ∧ OwnB w1.heap.size wr v (bodyN ns i) ∧ (bodyN ns i).length ≤ 9 * i ∧ Below w1.heap.size w1 wr) (fun _ _ c _ => 4 - (intOf c).toNat)
  case atStart => exact ⟨0, by omega, rfl, rfl, OwnB.nil _ _, by simp [bodyN], Below.refl _ _⟩
  case round =>
    obtain ⟨i, hi, rfl, rfl, hO, hlen, hB⟩ := hrel
    have HO := Lib.hid hO
    have HB := Lib.hid hB
    have hz := hB.size
    have HL := Lib.hid hlen
    clear hO hB hlen
    by_cases hlt : i < 4
    · have hci : wr.cell? ⟨fb, i, none⟩ = some (.int .i64 (ns i)) := cell_below HB.out hfb (HC.out i hlt)
      obtain ⟨hw0, hw1, hw2, hw3⟩ := which_lo ns
      have hpow : (2 : Int) ^ i % 256 = pw i := pow_pw i hlt
      have HNN : Hid (bodyN ns (i + 1) = bodyN ns i ++ numL (ns i)) := Lib.hid rfl
      have HNI := Lib.hid (HN.out i hlt)
      have HWS : Hid (whichN ns (i + 1) = whichN ns i + if ns i = 0 then 0 else pw i) := Lib.hid rfl
      have hadd : IntKind.u8.wrap (whichN ns i + 2 ^ i % 256) = whichN ns i + pw i := by
        rw [hpow, u8_wrap]
        rcases (by omega : i = 0 ∨ i = 1 ∨ i = 2 ∨ i = 3) with rfl | rfl | rfl | rfl <;> simp only [pw] <;> omega
      have HLN : Hid ((numL (ns i)).length ≤ 9) := Lib.hid (numL_len (ns i))
      have F := Lib.hid (field_any w1.heap.size _ (bodyN ns i) (ns i) HNI.out wr HO.out hz (by have := HL.out; omega))
      clear hw0 hw1 hw2 hw3 hpow
      by_cases h0 : ns i = 0
      · have h0b : (ns i != 0) = false := by simpa using h0
        have HW2 : Hid (whichN ns (i + 1) = whichN ns i) := Lib.hid (by rw [HWS.out, if_pos h0]; omega)
        clear hadd h0
        go_wp2_with fail
        refine (F.out).mono ?_
        rintro e w3 ⟨v3, rfl, hO3, hb3⟩
        have HO3 : Hid (OwnB w1.heap.size w3 v3 (bodyN ns (i + 1))) := Lib.hid (by rw [HNN.out]; exact hO3)
        have HB3 := Lib.hid (HB.out.trans hb3)
        clear hO3 hb3
        go_wp2
        go_roundw
        case rel => exact ⟨i + 1, by omega, by go_num, by rw [HW2.out], HO3.out, by rw [HNN.out, List.length_append]; have := HL.out; have := HLN.out; omega, HB3.out⟩
        case measure => simp [intOf]; omega
      · have h0b : (ns i != 0) = true := by simpa using h0
        have HW2 : Hid (whichN ns (i + 1) = whichN ns i + pw i) := Lib.hid (by rw [HWS.out, if_neg h0])
        clear h0
        go_wp2_with fail
        refine (F.out).mono ?_
        rintro e w3 ⟨v3, rfl, hO3, hb3⟩
        have HO3 : Hid (OwnB w1.heap.size w3 v3 (bodyN ns (i + 1))) := Lib.hid (by rw [HNN.out]; exact hO3)
        have HB3 := Lib.hid (HB.out.trans hb3)
        clear hO3 hb3
        go_wp2
        go_roundw
        case rel => exact ⟨i + 1, by omega, by go_num, by rw [HW2.out], HO3.out, by rw [HNN.out, List.length_append]; have := HL.out; have := HLN.out; omega, HB3.out⟩
        case measure => simp [intOf]; omega
    · obtain rfl : i = 4 := by omega
      have hx0 : wr.cell? ⟨w.heap.size, 0, none⟩ = some (.int .i64 k) := cell_below HB.out hz1 HX.out
      have hwb := which_bd ns
      obtain ⟨av, cv, rfl, hA, hnil⟩ := ownB_at HO.out
      have HA := Lib.hid hA
      have HNL := Lib.hid hnil
      clear hA hnil
      generalize whichN ns 4 = W4 at *
      have hlit : OwnB w.heap.size (wr.alloc (.cells #[.int .u8 k, .int .u8 W4] 5)) (.slice (some ⟨wr.heap.size, 0, none⟩) 2 2) [k, W4] :=
        World.ownsRow_lit (base := w.heap.size) (e := 5) (size := 1) wr #[.int .u8 k, .int .u8 W4] 2 (by omega) (by unfold maxLen; omega) rfl
      have HLT := Lib.hid hlit
      clear hlit
      go_wp2_with (at_builtin; refine append_bytes rfl _ _ rfl w.heap.size _ [k, W4] rfl HLT.out _ _ (bodyN ns 4) rfl ((HA.out.ch ((Ch.refl (fun _ => False) _).alloc _) (Nat.le_refl _) (fun _ _ h => h)).mono (by simp)) HNL.out ?_ ?_ ?_)
      · have := HL.out; simp; omega
      · simp; omega
      intro v4 w4 hO4 hg4
      have HB4 := Lib.hid (below_grown ((HW1.out.trans (HB.out.mono (by omega))).alloc (by omega) _) HLT.out hg4 (by simp; omega))
      have HO4 : Hid (OwnB w.heap.size w4 v4 (putL k ns)) := Lib.hid (by rw [HP.out]; exact hO4)
      clear hO4 hg4
      go_wp2
      go_returns
      exact ⟨_, rfl, HO4.out, HB4.out⟩
theorem put_any (e : EvI) (h : e.ok) (w : World) : Calls Try.prog 32 #[.agg #[.int .i64 e.k, .int .i64 e.cpu, .int .i64 e.id, .int .u64 e.mask, .int .i64 e.n]] w (Put w (putE e)) := by
  by_cases hk : 1 ≤ e.k ∧ e.k ≤ 30
  · exact put_yes _ _ _ _ _ w hk.1 hk.2 (ns_in h.1 h.2.1 h.2.2.2)
  · have : putE e = [] := if_neg hk
    rw [this]
    exact put_no e w (by omega)
end Go.Proofs.Ytpefmgmhclbcbaa.WireK
