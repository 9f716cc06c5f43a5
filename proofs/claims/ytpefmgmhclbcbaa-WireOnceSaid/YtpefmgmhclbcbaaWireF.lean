/- The contract of Get of layer 26. Condition: a slice of bytes. -/
import Derived.Test.YtpefmgmhclbcbaaWireE
import Derived.Deep.RegionHeld3
import Derived.Deep.DeepCutAuto
namespace Go.Proofs.Ytpefmgmhclbcbaa.WireF
open Go.RowKit Go.Proofs.Ytpefmgmhclbcbaa.Frame Go.Proofs.Ytpefmgmhclbcbaa.WireA Go.Proofs.Ytpefmgmhclbcbaa.WireB Go.Proofs.Ytpefmgmhclbcbaa.WireC Go.Proofs.Ytpefmgmhclbcbaa.WireD Go.Proofs.Ytpefmgmhclbcbaa.WireE
set_option linter.unusedVariables false
set_option linter.unusedSimpArgs false
/-- A block of memory is whole: these cells, not frozen. -/
def Blk (w : World) (b : Nat) (cs : Array Value) (t : TypeId) : Prop := w.heap[b]? = some (.cells cs t (0, 0))
theorem Blk.ch {w w' : World} {b : Nat} {cs : Array Value} {t : TypeId} (h : Blk w b cs t) {F : Nat → Prop} (hc : Ch F w w') (hF : ¬ F b) : Blk w' b cs t := by
  have hb : b < w.heap.size := (Array.getElem?_eq_some_iff.1 h).1
  exact (hc.block b hb hF).trans h
theorem Blk.cell {w : World} {b : Nat} {cs : Array Value} {t : TypeId} (h : Blk w b cs t) (o : Nat) : w.cell? ⟨b, o, none⟩ = cs[o]? := by
  unfold Blk at h
  simp [World.cell?, h]
theorem Blk.frozen {w : World} {b : Nat} {cs : Array Value} {t : TypeId} (h : Blk w b cs t) (o : Nat) : w.frozen? ⟨b, o, none⟩ = false := by
  unfold Blk at h
  simp [World.frozen?, h]
theorem Blk.lt {w : World} {b : Nat} {cs : Array Value} {t : TypeId} (h : Blk w b cs t) : b < w.heap.size := (Array.getElem?_eq_some_iff.1 h).1
theorem Blk.set {w : World} {b : Nat} {cs : Array Value} {t : TypeId} (h : Blk w b cs t) (o : Nat) (v : Value) : Blk (w.setCell ⟨b, o, none⟩ v) b (cs.setIfInBounds o v) t := by
  have hb := h.lt
  unfold Blk at *
  have e : w.heap[b]'hb = .cells cs t (0, 0) := by rw [Array.getElem?_eq_getElem hb] at h; exact Option.some.inj h
  rw [Array.getElem?_eq_getElem (by simpa [World.setCell] using hb)]
  simp only [World.setCell, Array.getElem_modify_self]
  rw [e]
  rfl
def arr (ns : Nat → Int) : Array Value := #[.int .i64 (ns 0), .int .i64 (ns 1), .int .i64 (ns 2), .int .i64 (ns 3)]
theorem arr_set (ns : Nat → Int) (i : Nat) (n : Int) : (arr ns).setIfInBounds i (.int .i64 n) = arr (upd ns i n) := by
  rcases i with _ | _ | _ | _ | i <;> simp [arr, upd]
theorem and_bit (x : Int) (h0 : 0 ≤ x) (h1 : x ≤ 255) : bits .and .u8 x 1 = x % 2 := by
  rw [u8_and x 1 h0 (by omega) (by omega) (by omega)]
  show ((x.toNat &&& 1 : Nat) : Int) = _
  rw [Nat.and_one_is_mod]
  omega
theorem bit_0 (q : Int) (h : 0 ≤ q ∧ q ≤ 255) : bit q 0 = decide (bits .and .u8 q 1 = 1) := by
  rw [and_bit q h.1 h.2]; unfold bit; simp [pw]
theorem bit_1 (q : Int) (h : 0 ≤ q ∧ q ≤ 255) : bit q 1 = decide (bits .and .u8 (q / 2) 1 = 1) := by
  rw [and_bit (q / 2) (by omega) (by omega)]; rfl
theorem bit_2 (q : Int) (h : 0 ≤ q ∧ q ≤ 255) : bit q 2 = decide (bits .and .u8 (q / 4) 1 = 1) := by
  rw [and_bit (q / 4) (by omega) (by omega)]; rfl
theorem bit_3 (q : Int) (h : 0 ≤ q ∧ q ≤ 255) : bit q 3 = decide (bits .and .u8 (q / 8) 1 = 1) := by
  rw [and_bit (q / 8) (by omega) (by omega)]; rfl
theorem number_isB {s : Rd} (h : IsB s.l) : IsB (number s).2.l := by
  have h1 : IsB (chk (nx1 s).2 (okK (nx1 s).1)).l := by rw [chk_l]; exact (nxF_isB h 1).2
  unfold number
  split
  · unfold numTail
    simp only [chk_l]
    exact (nxF_isB h1 _).2
  · exact h1
theorem st_no {b : Bool} {n : Int} (h : (n == 0) = false) : ¬ (b = true ∧ n = 0) := fun e => by
  rw [e.2] at h
  cases h
theorem st_no2 {b : Bool} {x : Int} {p : Prop} (hb : b = decide (x = 1)) (h : ¬ x = 1) : ¬ (b = true ∧ p) := fun e => by
  rw [hb] at e
  exact h (of_decide_eq_true e.1)
theorem keepcell {w w' : World} (hb : Below w.heap.size w w') {b o : Nat} {v : Value} (h : w.cell? ⟨b, o, none⟩ = some v) : w'.cell? ⟨b, o, none⟩ = some v :=
  (hb.cell (World.block_lt_of_cell? w _ h)).trans h
theorem keepfrozen {w w' : World} (hb : Below w.heap.size w w') {b o : Nat} (h : w.frozen? ⟨b, o, none⟩ = false) (hl : b < w.heap.size) : w'.frozen? ⟨b, o, none⟩ = false :=
  (hb.frozen (p := ⟨b, o, none⟩) hl).trans h
def evN (k : Int) (ns : Nat → Int) : Value := .agg #[.int .i64 k, .int .i64 (ns 0), .int .i64 (ns 1), .int .u64 (u64 (ns 2)), .int .i64 (ns 3)]
def ev0 : Value := .agg #[.int .i64 0, .int .i64 0, .int .i64 0, .int .u64 0, .int .i64 0]
def GetR (w : World) (l : List Int) (e : Ending) (w' : World) : Prop :=
  (((get l).1.why ≠ 0 ∧ e = .returned (.tuple #[ev0, .int .i64 0, .int .i64 (get l).1.why])) ∨ ((get l).1.why = 0 ∧ e = .returned (.tuple #[evN (s2 l).1 (get l).2, .int .i64 ((l.length : Int) - (get l).1.l.length), .int .i64 0]))) ∧ Below w.heap.size w w'
abbrev zeroEv : Array Value := #[.int .i64 0, .int .i64 0, .int .i64 0, .int .u64 0, .int .i64 0]
theorem start (w : World) (a : Option Addr) (cap : Nat) (l : List Int) (h : BytesAt w.heap.size w a cap l) :
    RdAt ((w.alloc (.cells zeroEv 40)).alloc (.cells #[.slice a l.length cap, .int .i64 0] 101)) (w.heap.size + 1) w.heap.size ⟨l, 0⟩ ∧
    Blk ((w.alloc (.cells zeroEv 40)).alloc (.cells #[.slice a l.length cap, .int .i64 0] 101)) w.heap.size zeroEv 40 ∧
    Below w.heap.size w ((w.alloc (.cells zeroEv 40)).alloc (.cells #[.slice a l.length cap, .int .i64 0] 101)) := by
  have b1 : Below w.heap.size w ((w.alloc (.cells zeroEv 40)).alloc (.cells #[.slice a l.length cap, .int .i64 0] 101)) := ((Below.refl _ _).alloc (Nat.le_refl _) _).alloc (by simp) _
  have k2 : Blk ((w.alloc (.cells zeroEv 40)).alloc (.cells #[.slice a l.length cap, .int .i64 0] 101)) (w.heap.size + 1) #[.slice a l.length cap, .int .i64 0] 101 := by
    unfold Blk World.alloc
    dsimp only
    rw [Array.getElem?_push, if_pos (by simp)]
  refine ⟨⟨⟨a, cap, k2.cell 0, h.ch (Ch.of_below (F := fun _ => False) b1) (Nat.le_refl _) (fun _ _ => id)⟩, k2.cell 1, k2.frozen 0, k2.frozen 1, by omega, k2.lt⟩, ?_, b1⟩
  unfold Blk World.alloc
  dsimp only
  rw [Array.getElem?_push, if_neg (by simp), Array.getElem?_push, if_pos rfl]
set_option maxRecDepth 100000 in
set_option maxHeartbeats 4000000 in
theorem get_any (w : World) (a : Option Addr) (cap : Nat) (l : List Int) (h : BytesAt w.heap.size w a cap l) (hb : IsB l) : Calls Try.prog 25 #[.slice a l.length cap] w (GetR w l) := by
  have H0 := Lib.hid h
  have HB := Lib.hid hb
  have HG : Hid (get l = st (s4 l).1 (s4 l).2 4) := Lib.hid rfl
  have HS4 : Hid (s4 l = ((nx1 (s2 l).2).1, chk (nx1 (s2 l).2).2 (okWhich (nx1 (s2 l).2).1))) := Lib.hid rfl
  have HS2 : Hid (s2 l = ((nx1 ⟨l, 0⟩).1, chk (nx1 ⟨l, 0⟩).2 (okKind (nx1 ⟨l, 0⟩).1))) := Lib.hid rfl
  clear h hb
  go_enter Try.func25, Try.ntmps25
  go_wp2_with fail
  obtain ⟨hR0, hB0, hBl0⟩ := start w a cap l H0.out
  have HBL := Lib.hid hBl0
  refine (next1 _ _ _ _ hR0).mono ?_
  rintro e w1 ⟨b1, o1, rfl, hc1, hR1, hC1⟩
  have HQ : Hid (Ch (fun b => w.heap.size ≤ b) w w1) := Lib.hid ((Ch.of_below hBl0).then hC1 (fun i hi e => by omega))
  have HB0 : Hid (Blk w1 w.heap.size zeroEv 40) := Lib.hid (hB0.ch hC1 (by omega))
  have hk := nx1_isB (s := ⟨l, 0⟩) HB.out
  have HB1 : Hid (IsB (nx1 ⟨l, 0⟩).2.l) := Lib.hid (nxF_isB HB.out 1).2
  have HR1 := Lib.hid hR1
  clear hR0 hB0 hBl0 hR1 hC1
  have HK : Hid ((nx1 ⟨l, 0⟩).1 = (s2 l).1) := Lib.hid rfl
  generalize (nx1 ⟨l, 0⟩).1 = k at *
  generalize (nx1 ⟨l, 0⟩).2 = s1 at *
  go_upto_region 3 with fail
  go_cut [24] (fun v wc => RdAt wc (w.heap.size + 1) w.heap.size (chk s1 (okKind k)) ∧ Ch (fun b => b = w.heap.size + 1) w1 wc)
  case first =>
    rcases (by omega : k < 1 ∨ (30 < k ∧ 1 ≤ k) ∨ (1 ≤ k ∧ k ≤ 30)) with hlt | ⟨hgt, hge⟩ | ⟨hge, hle⟩
    · have HO : Hid (okKind k = false) := Lib.hid (decide_eq_false (by omega))
      go_wp2_with fail
      refine (check_any w1 _ _ s1 HR1.out false).mono ?_
      rintro e w2 ⟨rfl, hR2, hC2⟩
      go_wp2
      go_meet
      exact ⟨by rw [HO.out]; exact hR2, hC2⟩
    · have HO : Hid (okKind k = false) := Lib.hid (decide_eq_false (by omega))
      have hd : decide (k ≤ 30) = false := decide_eq_false (by omega)
      go_wp2_with fail
      refine (check_any w1 _ _ s1 HR1.out false).mono ?_
      rintro e w2 ⟨rfl, hR2, hC2⟩
      go_wp2
      go_meet
      exact ⟨by rw [HO.out]; exact hR2, hC2⟩
    · have HO : Hid (okKind k = true) := Lib.hid (decide_eq_true (by omega))
      go_wp2_with fail
      refine (check_any w1 _ _ s1 HR1.out true).mono ?_
      rintro e w2 ⟨rfl, hR2, hC2⟩
      go_wp2
      go_meet
      exact ⟨by rw [HO.out]; exact hR2, hC2⟩
  case rest =>
    obtain ⟨hR2, hC2⟩ := hcut
    have HS2b : Hid (chk s1 (okKind k) = (s2 l).2) := Lib.hid (by rw [HS2.out])
    have HR2 : Hid (RdAt wc (w.heap.size + 1) w.heap.size (s2 l).2) := Lib.hid (by rw [← HS2b.out]; exact hR2)
    have HB2 : Hid (Blk wc w.heap.size zeroEv 40) := Lib.hid (HB0.out.ch hC2 (by omega))
    have HQ2 : Hid (Ch (fun b => w.heap.size ≤ b) w wc) := Lib.hid (HQ.out.then hC2 (fun i hi e => by omega))
    have HB1b : Hid (IsB (s2 l).2.l) := Lib.hid (by rw [← HS2b.out, chk_l]; exact HB1.out)
    clear hR2 hC2 HB0 HQ HB1 HR1 HS2 HS2b
    have HS4a : Hid ((s4 l).1 = (nx1 (s2 l).2).1 ∧ (s4 l).2 = chk (nx1 (s2 l).2).2 (okWhich (nx1 (s2 l).2).1)) := Lib.hid (by rw [HS4.out]; exact ⟨rfl, rfl⟩)
    clear HS4
    generalize (s2 l).2 = t2 at *
    go_wp2_with fail
    refine (next1 _ _ _ _ HR2.out).mono ?_
    rintro e w3 ⟨b3, o3, rfl, hc3, hR3, hC3⟩
    have hq := nx1_isB HB1b.out
    have HB3 : Hid (IsB (nx1 t2).2.l) := Lib.hid (nxF_isB HB1b.out 1).2
    have HR3 := Lib.hid hR3
    have HB3b : Hid (Blk w3 w.heap.size zeroEv 40) := Lib.hid (HB2.out.ch hC3 (by omega))
    have HQ3 : Hid (Ch (fun b => w.heap.size ≤ b) w w3) := Lib.hid (HQ2.out.then hC3 (fun i hi e => by omega))
    clear hR3 hC3 HR2 HB2 HQ2 hc1
    generalize (nx1 t2).1 = q at *
    generalize (nx1 t2).2 = t3 at *
    go_wp2_with fail
    refine (check_any w3 _ _ t3 HR3.out (decide (q ≤ 15))).mono ?_
    rintro e w4 ⟨rfl, hR4, hC4⟩
    have HR4 : Hid (RdAt w4 (w.heap.size + 1) w.heap.size (s4 l).2) := Lib.hid (by rw [HS4a.out.2]; exact hR4)
    have HB4 : Hid (Blk w4 w.heap.size zeroEv 40) := Lib.hid (HB3b.out.ch hC4 (by omega))
    have HQ4 : Hid (Ch (fun b => w.heap.size ≤ b) w w4) := Lib.hid (HQ3.out.then hC4 (fun i hi e => by omega))
    have HI4 : Hid (IsB (s4 l).2.l) := Lib.hid (by rw [HS4a.out.2, chk_l]; exact HB3.out)
    have HW : Hid ((s4 l).1 = q) := Lib.hid HS4a.out.1
    have hsz : w.heap.size ≤ w4.heap.size := HQ4.out.size
    have hsz1 : w.heap.size + 1 < w4.heap.size := HR4.out.lt
    clear hR4 hC4 HB3b HQ3 HB3 HR3 HS4a
    go_wp2_with fail
    have hnew : Blk (w4.alloc (.cells (arr (fun _ => 0)) 96)) w4.heap.size (arr (fun _ => 0)) 96 := by
      unfold Blk World.alloc
      dsimp only
      rw [Array.getElem?_push, if_pos rfl]
    have hCn : Ch (fun _ => False) w4 (w4.alloc (.cells (arr (fun _ => 0)) 96)) := (Ch.refl _ _).alloc _
    have HN := Lib.hid hnew
    have HCn := Lib.hid hCn
    clear hnew hCn
    go_loopw [33] (fun v wr => ∃ i : Nat, i ≤ 4 ∧ v = .int .i64 i ∧ RdAt wr (w.heap.size + 1) w.heap.size (st q (s4 l).2 i).1 ∧ Blk wr w4.heap.size (arr (st q (s4 l).2 i).2) 96 ∧ Blk wr w.heap.size zeroEv 40 ∧ Ch (fun b => w.heap.size ≤ b) w wr ∧ IsB (st q (s4 l).2 i).1.l) (fun v _ => 4 - (intOf v).toNat)
    case atStart => exact ⟨0, by omega, rfl, HR4.out.ch HCn.out id (fun _ _ => id), HN.out, HB4.out.ch HCn.out id, HQ4.out.alloc _, HI4.out⟩
    case round =>
      obtain ⟨i, hi, rfl, hRr, hNr, hBr, hQr, hIr⟩ := hrel
      have HRr := Lib.hid hRr
      have HNr := Lib.hid hNr
      have HBr := Lib.hid hBr
      have HQr := Lib.hid hQr
      have HIr := Lib.hid hIr
      have hwhy := hRr.why
      have hnl := hNr.lt
      have hrl := hRr.lt
      have hf0 : ∀ o, wr.frozen? ⟨w4.heap.size, o, none⟩ = false := hNr.frozen
      have hc0 : wr.cell? ⟨w4.heap.size, 0, none⟩ = some (.int .i64 ((st q (s4 l).2 i).2 0)) := hNr.cell 0
      have hc1 : wr.cell? ⟨w4.heap.size, 1, none⟩ = some (.int .i64 ((st q (s4 l).2 i).2 1)) := hNr.cell 1
      have hc2 : wr.cell? ⟨w4.heap.size, 2, none⟩ = some (.int .i64 ((st q (s4 l).2 i).2 2)) := hNr.cell 2
      have hc3 : wr.cell? ⟨w4.heap.size, 3, none⟩ = some (.int .i64 ((st q (s4 l).2 i).2 3)) := hNr.cell 3
      have HST : Hid (st q (s4 l).2 (i + 1) = if bit q i = true ∧ (st q (s4 l).2 i).1.why = 0 then ((number (st q (s4 l).2 i).1).2, upd (st q (s4 l).2 i).2 i (number (st q (s4 l).2 i).1).1) else ((st q (s4 l).2 i).1, (st q (s4 l).2 i).2)) := Lib.hid rfl
      have HGS : Hid (i = 4 → get l = ((st q (s4 l).2 i).1, (st q (s4 l).2 i).2)) := Lib.hid (fun e => by subst e; rw [HG.out, HW.out])
      clear hRr hNr hBr hQr hIr HR4 HB4 HQ4 HI4 HN HCn
      generalize (st q (s4 l).2 i).1 = S at *
      generalize (st q (s4 l).2 i).2 = N at *
      rcases (by omega : i = 0 ∨ i = 1 ∨ i = 2 ∨ i = 3 ∨ i = 4) with rfl | rfl | rfl | rfl | rfl
      · have HBT := Lib.hid (bit_0 q hq)
        go_wp2_with fail
        · have HE : Hid (st q (s4 l).2 (0 + 1) = ((number S).2, upd N 0 (number S).1)) := Lib.hid (by rw [HST.out, if_pos ⟨by rw [HBT.out]; exact decide_eq_true (by assumption), by simpa using (by assumption : (S.why == 0) = true)⟩])
          refine (number_any _ _ _ S HRr.out HIr.out).mono ?_
          rintro e w5 ⟨rfl, hR5, hC5⟩
          have hN5 := HNr.out.ch hC5 (by omega)
          have g1 : w5.cell? ⟨w4.heap.size, 0, none⟩ = some (.int .i64 (N 0)) := hN5.cell 0
          have g2 : w5.frozen? ⟨w4.heap.size, 0, none⟩ = false := hN5.frozen 0
          have HN5 := Lib.hid hN5
          have HR5 := Lib.hid hR5
          have HC5 := Lib.hid hC5
          have HB5 := Lib.hid (HBr.out.ch hC5 (by omega))
          have HQ5 : Hid (Ch (fun b => w.heap.size ≤ b) w w5) := Lib.hid (HQr.out.then hC5 (fun i hi e => by omega))
          clear hN5 hR5 hC5
          go_wp2_with fail
          go_roundw
          case rel =>
            refine ⟨0 + 1, by omega, rfl, ?_⟩
            rw [HE.out]
            have hs := Ch.set (rb := w4.heap.size) (w := w5) 0 (.int .i64 (number S).1)
            exact ⟨HR5.out.ch hs (by omega) (fun b hb => by omega), by rw [← arr_set]; exact HN5.out.set 0 _, HB5.out.ch hs (by omega), HQ5.out.then hs (fun i hi e => by omega), number_isB HIr.out⟩
          case measure => simp [intOf]
        · have HE : Hid (st q (s4 l).2 (0 + 1) = (S, N)) := Lib.hid (by rw [HST.out, if_neg (st_no (by assumption))])
          go_roundw
          case rel =>
            refine ⟨0 + 1, by omega, rfl, ?_⟩
            rw [HE.out]
            exact ⟨HRr.out, HNr.out, HBr.out, HQr.out, HIr.out⟩
          case measure => simp [intOf]
        · have HE : Hid (st q (s4 l).2 (0 + 1) = (S, N)) := Lib.hid (by rw [HST.out, if_neg (st_no2 (HBT.out) (by assumption))])
          go_roundw
          case rel =>
            refine ⟨0 + 1, by omega, rfl, ?_⟩
            rw [HE.out]
            exact ⟨HRr.out, HNr.out, HBr.out, HQr.out, HIr.out⟩
          case measure => simp [intOf]
      · have HBT := Lib.hid (bit_1 q hq)
        go_wp2_with fail
        · have HE : Hid (st q (s4 l).2 (1 + 1) = ((number S).2, upd N 1 (number S).1)) := Lib.hid (by rw [HST.out, if_pos ⟨by rw [HBT.out]; exact decide_eq_true (by assumption), by simpa using (by assumption : (S.why == 0) = true)⟩])
          refine (number_any _ _ _ S HRr.out HIr.out).mono ?_
          rintro e w5 ⟨rfl, hR5, hC5⟩
          have hN5 := HNr.out.ch hC5 (by omega)
          have g1 : w5.cell? ⟨w4.heap.size, 1, none⟩ = some (.int .i64 (N 1)) := hN5.cell 1
          have g2 : w5.frozen? ⟨w4.heap.size, 1, none⟩ = false := hN5.frozen 1
          have HN5 := Lib.hid hN5
          have HR5 := Lib.hid hR5
          have HC5 := Lib.hid hC5
          have HB5 := Lib.hid (HBr.out.ch hC5 (by omega))
          have HQ5 : Hid (Ch (fun b => w.heap.size ≤ b) w w5) := Lib.hid (HQr.out.then hC5 (fun i hi e => by omega))
          clear hN5 hR5 hC5
          go_wp2_with fail
          go_roundw
          case rel =>
            refine ⟨1 + 1, by omega, rfl, ?_⟩
            rw [HE.out]
            have hs := Ch.set (rb := w4.heap.size) (w := w5) 1 (.int .i64 (number S).1)
            exact ⟨HR5.out.ch hs (by omega) (fun b hb => by omega), by rw [← arr_set]; exact HN5.out.set 1 _, HB5.out.ch hs (by omega), HQ5.out.then hs (fun i hi e => by omega), number_isB HIr.out⟩
          case measure => simp [intOf]
        · have HE : Hid (st q (s4 l).2 (1 + 1) = (S, N)) := Lib.hid (by rw [HST.out, if_neg (st_no (by assumption))])
          go_roundw
          case rel =>
            refine ⟨1 + 1, by omega, rfl, ?_⟩
            rw [HE.out]
            exact ⟨HRr.out, HNr.out, HBr.out, HQr.out, HIr.out⟩
          case measure => simp [intOf]
        · have HE : Hid (st q (s4 l).2 (1 + 1) = (S, N)) := Lib.hid (by rw [HST.out, if_neg (st_no2 (HBT.out) (by assumption))])
          go_roundw
          case rel =>
            refine ⟨1 + 1, by omega, rfl, ?_⟩
            rw [HE.out]
            exact ⟨HRr.out, HNr.out, HBr.out, HQr.out, HIr.out⟩
          case measure => simp [intOf]
      · have HBT := Lib.hid (bit_2 q hq)
        go_wp2_with fail
        · have HE : Hid (st q (s4 l).2 (2 + 1) = ((number S).2, upd N 2 (number S).1)) := Lib.hid (by rw [HST.out, if_pos ⟨by rw [HBT.out]; exact decide_eq_true (by assumption), by simpa using (by assumption : (S.why == 0) = true)⟩])
          refine (number_any _ _ _ S HRr.out HIr.out).mono ?_
          rintro e w5 ⟨rfl, hR5, hC5⟩
          have hN5 := HNr.out.ch hC5 (by omega)
          have g1 : w5.cell? ⟨w4.heap.size, 2, none⟩ = some (.int .i64 (N 2)) := hN5.cell 2
          have g2 : w5.frozen? ⟨w4.heap.size, 2, none⟩ = false := hN5.frozen 2
          have HN5 := Lib.hid hN5
          have HR5 := Lib.hid hR5
          have HC5 := Lib.hid hC5
          have HB5 := Lib.hid (HBr.out.ch hC5 (by omega))
          have HQ5 : Hid (Ch (fun b => w.heap.size ≤ b) w w5) := Lib.hid (HQr.out.then hC5 (fun i hi e => by omega))
          clear hN5 hR5 hC5
          go_wp2_with fail
          go_roundw
          case rel =>
            refine ⟨2 + 1, by omega, rfl, ?_⟩
            rw [HE.out]
            have hs := Ch.set (rb := w4.heap.size) (w := w5) 2 (.int .i64 (number S).1)
            exact ⟨HR5.out.ch hs (by omega) (fun b hb => by omega), by rw [← arr_set]; exact HN5.out.set 2 _, HB5.out.ch hs (by omega), HQ5.out.then hs (fun i hi e => by omega), number_isB HIr.out⟩
          case measure => simp [intOf]
        · have HE : Hid (st q (s4 l).2 (2 + 1) = (S, N)) := Lib.hid (by rw [HST.out, if_neg (st_no (by assumption))])
          go_roundw
          case rel =>
            refine ⟨2 + 1, by omega, rfl, ?_⟩
            rw [HE.out]
            exact ⟨HRr.out, HNr.out, HBr.out, HQr.out, HIr.out⟩
          case measure => simp [intOf]
        · have HE : Hid (st q (s4 l).2 (2 + 1) = (S, N)) := Lib.hid (by rw [HST.out, if_neg (st_no2 (HBT.out) (by assumption))])
          go_roundw
          case rel =>
            refine ⟨2 + 1, by omega, rfl, ?_⟩
            rw [HE.out]
            exact ⟨HRr.out, HNr.out, HBr.out, HQr.out, HIr.out⟩
          case measure => simp [intOf]
      · have HBT := Lib.hid (bit_3 q hq)
        go_wp2_with fail
        · have HE : Hid (st q (s4 l).2 (3 + 1) = ((number S).2, upd N 3 (number S).1)) := Lib.hid (by rw [HST.out, if_pos ⟨by rw [HBT.out]; exact decide_eq_true (by assumption), by simpa using (by assumption : (S.why == 0) = true)⟩])
          refine (number_any _ _ _ S HRr.out HIr.out).mono ?_
          rintro e w5 ⟨rfl, hR5, hC5⟩
          have hN5 := HNr.out.ch hC5 (by omega)
          have g1 : w5.cell? ⟨w4.heap.size, 3, none⟩ = some (.int .i64 (N 3)) := hN5.cell 3
          have g2 : w5.frozen? ⟨w4.heap.size, 3, none⟩ = false := hN5.frozen 3
          have HN5 := Lib.hid hN5
          have HR5 := Lib.hid hR5
          have HC5 := Lib.hid hC5
          have HB5 := Lib.hid (HBr.out.ch hC5 (by omega))
          have HQ5 : Hid (Ch (fun b => w.heap.size ≤ b) w w5) := Lib.hid (HQr.out.then hC5 (fun i hi e => by omega))
          clear hN5 hR5 hC5
          go_wp2_with fail
          go_roundw
          case rel =>
            refine ⟨3 + 1, by omega, rfl, ?_⟩
            rw [HE.out]
            have hs := Ch.set (rb := w4.heap.size) (w := w5) 3 (.int .i64 (number S).1)
            exact ⟨HR5.out.ch hs (by omega) (fun b hb => by omega), by rw [← arr_set]; exact HN5.out.set 3 _, HB5.out.ch hs (by omega), HQ5.out.then hs (fun i hi e => by omega), number_isB HIr.out⟩
          case measure => simp [intOf]
        · have HE : Hid (st q (s4 l).2 (3 + 1) = (S, N)) := Lib.hid (by rw [HST.out, if_neg (st_no (by assumption))])
          go_roundw
          case rel =>
            refine ⟨3 + 1, by omega, rfl, ?_⟩
            rw [HE.out]
            exact ⟨HRr.out, HNr.out, HBr.out, HQr.out, HIr.out⟩
          case measure => simp [intOf]
        · have HE : Hid (st q (s4 l).2 (3 + 1) = (S, N)) := Lib.hid (by rw [HST.out, if_neg (st_no2 (HBT.out) (by assumption))])
          go_roundw
          case rel =>
            refine ⟨3 + 1, by omega, rfl, ?_⟩
            rw [HE.out]
            exact ⟨HRr.out, HNr.out, HBr.out, HQr.out, HIr.out⟩
          case measure => simp [intOf]
      · have HGL : Hid (get l = (S, N)) := Lib.hid (HGS.out rfl)
        have y0 : wr.cell? ⟨w.heap.size, 0, none⟩ = some (.int .i64 0) := HBr.out.cell 0
        have y1 : wr.cell? ⟨w.heap.size, 1, none⟩ = some (.int .i64 0) := HBr.out.cell 1
        have y2 : wr.cell? ⟨w.heap.size, 2, none⟩ = some (.int .i64 0) := HBr.out.cell 2
        have y3 : wr.cell? ⟨w.heap.size, 3, none⟩ = some (.int .u64 0) := HBr.out.cell 3
        have y4 : wr.cell? ⟨w.heap.size, 4, none⟩ = some (.int .i64 0) := HBr.out.cell 4
        have z0 : ∀ o, wr.frozen? ⟨w.heap.size, o, none⟩ = false := HBr.out.frozen
        clear HST HGS
        by_cases hz : S.why = 0
        · have hz1 : (S.why != 0) = false := by simpa using hz
          obtain ⟨a2, cap2, hsl, hBa⟩ := HRr.out.ex
          have hQr := HQr.out
          have zf0 := z0 0
          have zf1 := z0 1
          have zf2 := z0 2
          have zf3 := z0 3
          have zf4 := z0 4
          go_wp2_with fail
          have hwr : IntKind.i64.wrap ((l.length : Int) - (S.l.length : Int)) = (l.length : Int) - (S.l.length : Int) := by rw [IntKind.wrap_i64]; have := H0.out.1; have h2 := H0.out.2.1; have := hBa.1; have h3 := hBa.2.1; unfold maxLen at h2 h3; omega
          clear hBa
          refine wp_region_held_drew (S := fun w' => w'.cell? ⟨w.heap.size + 1, 0, none⟩ = some (.slice a2 S.l.length cap2) ∧ w'.cell? ⟨w4.heap.size, 0, none⟩ = some (.int .i64 (N 0)) ∧ w'.cell? ⟨w4.heap.size, 1, none⟩ = some (.int .i64 (N 1)) ∧ w'.cell? ⟨w4.heap.size, 2, none⟩ = some (.int .i64 (N 2)) ∧ w'.cell? ⟨w4.heap.size, 3, none⟩ = some (.int .i64 (N 3)) ∧ (∃ u0 u1 u2 u3 u4, w'.cell? ⟨w.heap.size, 0, none⟩ = some u0 ∧ w'.cell? ⟨w.heap.size, 1, none⟩ = some u1 ∧ w'.cell? ⟨w.heap.size, 2, none⟩ = some u2 ∧ w'.cell? ⟨w.heap.size, 3, none⟩ = some u3 ∧ w'.cell? ⟨w.heap.size, 4, none⟩ = some u4) ∧ w'.frozen? ⟨w.heap.size, 0, none⟩ = false ∧ w'.frozen? ⟨w.heap.size, 1, none⟩ = false ∧ w'.frozen? ⟨w.heap.size, 2, none⟩ = false ∧ w'.frozen? ⟨w.heap.size, 3, none⟩ = false ∧ w'.frozen? ⟨w.heap.size, 4, none⟩ = false ∧ Ch (fun b => w.heap.size ≤ b) w w' ∧ w.heap.size + 1 < w'.heap.size ∧ w4.heap.size < w'.heap.size) (by kernel_rfl) ⟨hsl, hc0, hc1, hc2, hc3, ⟨_, _, _, _, _, y0, y1, y2, y3, y4⟩, zf0, zf1, zf2, zf3, zf4, hQr.drew, hrl, hnl⟩ (fun hHeld => ?_)
          clear y0 y1 y2 y3 y4 z0 zf0 zf1 zf2 zf3 zf4
          refine wpAnyH_take (i := 0) (oi := ?_) (v := ?_) ?_ (by kernel_rfl) (by kernel_rfl) (by kernel_rfl) ?_ (Or.inl ⟨?_, ?_⟩) hHeld ?_
          rotate_left 2
          · simp only [List.getElem?_toArray, List.getElem?_cons_zero, List.getElem?_cons_succ]; rfl
          · exact fun _ _ _ h => h
          · rfl
          · intro w' hSw; (try dsimp only at hSw); go_simp; (try with_reducible rfl)
          (try simp only [Act.put, List.setIfInBounds_toArray, List.set_cons_zero, List.set_cons_succ])
          refine wpAnyH_take (i := 1) (oi := ?_) (v := ?_) ?_ (by kernel_rfl) (by kernel_rfl) (by kernel_rfl) ?_ (Or.inl ⟨?_, ?_⟩) hHeld ?_
          rotate_left 2
          · simp only [List.getElem?_toArray, List.getElem?_cons_zero, List.getElem?_cons_succ]; rfl
          · exact fun _ _ _ h => h
          · rfl
          · intro w' hSw; (try dsimp only at hSw); go_simp; (try with_reducible rfl)
          (try simp only [Act.put, List.setIfInBounds_toArray, List.set_cons_zero, List.set_cons_succ])
          refine wpAnyH_take (i := 3) (oi := ?_) (v := ?_) ?_ (by kernel_rfl) (by kernel_rfl) (by kernel_rfl) ?_ (Or.inl ⟨?_, ?_⟩) hHeld ?_
          rotate_left 2
          · simp only [List.getElem?_toArray, List.getElem?_cons_zero, List.getElem?_cons_succ]; rfl
          · exact fun _ _ _ h => h
          · rfl
          · intro w' hSw; (try dsimp only at hSw); go_simp; (try with_reducible rfl)
          (try simp only [Act.put, List.setIfInBounds_toArray, List.set_cons_zero, List.set_cons_succ])
          refine wpAnyH_take (i := 4) (oi := ?_) (v := ?_) ?_ (by kernel_rfl) (by kernel_rfl) (by kernel_rfl) ?_ (Or.inl ⟨?_, ?_⟩) hHeld ?_
          rotate_left 2
          · simp only [List.getElem?_toArray, List.getElem?_cons_zero, List.getElem?_cons_succ]; rfl
          · exact fun _ _ _ h => h
          · rfl
          · intro w' hSw; (try dsimp only at hSw); go_simp; (try with_reducible rfl)
          (try simp only [Act.put, List.setIfInBounds_toArray, List.set_cons_zero, List.set_cons_succ])
          refine wpAnyH_take (i := 5) (oi := ?_) (v := ?_) ?_ (by kernel_rfl) (by kernel_rfl) (by kernel_rfl) ?_ (Or.inl ⟨?_, ?_⟩) hHeld ?_
          rotate_left 2
          · simp only [List.getElem?_toArray, List.getElem?_cons_zero, List.getElem?_cons_succ]; rfl
          · exact fun _ _ _ h => h
          · rfl
          · intro w' hSw; (try dsimp only at hSw); go_simp; (try with_reducible rfl)
          (try simp only [Act.put, List.setIfInBounds_toArray, List.set_cons_zero, List.set_cons_succ])
          refine wpAnyH_take (i := 6) (oi := ?_) (v := ?_) ?_ (by kernel_rfl) (by kernel_rfl) (by kernel_rfl) ?_ (Or.inl ⟨?_, ?_⟩) hHeld ?_
          rotate_left 2
          · simp only [List.getElem?_toArray, List.getElem?_cons_zero, List.getElem?_cons_succ]; rfl
          · exact fun _ _ _ h => h
          · rfl
          · intro w' hSw; (try dsimp only at hSw); go_simp; (try with_reducible rfl)
          (try simp only [Act.put, List.setIfInBounds_toArray, List.set_cons_zero, List.set_cons_succ])
          refine wpAnyH_take (i := 7) (oi := ?_) (v := ?_) ?_ (by kernel_rfl) (by kernel_rfl) (by kernel_rfl) ?_ (Or.inl ⟨?_, ?_⟩) hHeld ?_
          rotate_left 2
          · simp only [List.getElem?_toArray, List.getElem?_cons_zero, List.getElem?_cons_succ]; rfl
          · exact fun _ _ _ h => h
          · rfl
          · intro w' hSw; (try dsimp only at hSw); go_simp; (try with_reducible rfl)
          (try simp only [Act.put, List.setIfInBounds_toArray, List.set_cons_zero, List.set_cons_succ])
          refine wpAnyH_take (i := 8) (oi := ?_) (v := ?_) ?_ (by kernel_rfl) (by kernel_rfl) (by kernel_rfl) ?_ (Or.inl ⟨?_, ?_⟩) hHeld ?_
          rotate_left 2
          · simp only [List.getElem?_toArray, List.getElem?_cons_zero, List.getElem?_cons_succ]; rfl
          · exact fun _ _ _ h => h
          · rfl
          · intro w' hSw; (try dsimp only at hSw); go_simp; (try with_reducible rfl)
          (try simp only [Act.put, List.setIfInBounds_toArray, List.set_cons_zero, List.set_cons_succ])
          refine wpAnyH_take (i := 9) (oi := ?_) (v := ?_) ?_ (by kernel_rfl) (by kernel_rfl) (by kernel_rfl) ?_ (Or.inl ⟨?_, ?_⟩) hHeld ?_
          rotate_left 2
          · simp only [List.getElem?_toArray, List.getElem?_cons_zero, List.getElem?_cons_succ]; rfl
          · exact fun _ _ _ h => h
          · rfl
          · intro w' hSw; (try dsimp only at hSw); go_simp; (try with_reducible rfl)
          (try simp only [Act.put, List.setIfInBounds_toArray, List.set_cons_zero, List.set_cons_succ])
          refine wpAnyH_take (i := 10) (oi := ?_) (v := ?_) ?_ (by kernel_rfl) (by kernel_rfl) (by kernel_rfl) ?_ (Or.inl ⟨?_, ?_⟩) hHeld ?_
          rotate_left 2
          · simp only [List.getElem?_toArray, List.getElem?_cons_zero, List.getElem?_cons_succ]; rfl
          · exact fun _ _ _ h => h
          · rfl
          · intro w' hSw; (try dsimp only at hSw); go_simp; (try with_reducible rfl)
          (try simp only [Act.put, List.setIfInBounds_toArray, List.set_cons_zero, List.set_cons_succ])
          refine wpAnyH_ready (rs := [2]) (by kernel_rfl) (by simp) ?_
          refine AllReadyH.cons (o := ?_) ?_ (fun K hK => ?_) AllReadyH.nil
          rotate_left 1
          · simp only [List.getElem?_toArray, List.getElem?_cons_zero, List.getElem?_cons_succ]; rfl
          go_simp
          obtain ⟨s0, s1, s2, s3, s4, ⟨u0, u1, u2, u3, u4, s5, s6, s7, s8, s9⟩, f0, f1, f2, f3, f4, sc, sl1, sl2⟩ := hHeld
          refine (event_any _ _ _ _ _ hk _).mono ?_
          rintro e w9 ⟨rfl, hb9⟩
          refine hK.out _ _ ⟨keepcell hb9 s0, keepcell hb9 s1, keepcell hb9 s2, keepcell hb9 s3, keepcell hb9 s4, ⟨_, _, _, _, _, keepcell hb9 s5, keepcell hb9 s6, keepcell hb9 s7, keepcell hb9 s8, keepcell hb9 s9⟩, keepfrozen hb9 f0 (by omega), keepfrozen hb9 f1 (by omega), keepfrozen hb9 f2 (by omega), keepfrozen hb9 f3 (by omega), keepfrozen hb9 f4 (by omega), sc.then (Ch.of_below (F := fun _ => False) hb9) (fun _ _ h => h.elim), Nat.lt_of_lt_of_le sl1 hb9.size, Nat.lt_of_lt_of_le sl2 hb9.size⟩ (fun hHeld => ?_)
          clear hK K
          (try simp only [Act.put, List.setIfInBounds_toArray, List.set_cons_zero, List.set_cons_succ])
          clear s0 s1 s2 s3 s4 s5 s6 s7 s8 s9 f0 f1 f2 f3 f4 sc
          obtain ⟨s0, s1, s2, s3, s4, ⟨u0, u1, u2, u3, u4, s5, s6, s7, s8, s9⟩, f0, f1, f2, f3, f4, sc, sl3, sl4⟩ := hHeld
          refine wpAnyH_ready (rs := [11]) (by kernel_rfl) (by simp) ?_
          refine AllReadyH.cons (o := ?_) ?_ (fun K hK => ?_) AllReadyH.nil
          rotate_left 1
          · simp only [List.getElem?_toArray, List.getElem?_cons_zero, List.getElem?_cons_succ]; rfl
          go_simp
          refine hK.out _ _ ?_ (fun hHeld => ?_)
          · refine ⟨?_, ?_, ?_, ?_, ?_, ⟨.int .i64 k, .int .i64 (N 0), .int .i64 (N 1), .int .u64 (WireC.u64 (N 2)), .int .i64 (N 3), ?_, ?_, ?_, ?_, ?_⟩, ?_, ?_, ?_, ?_, ?_, ((((sc.setCell (fun _ => Nat.le_refl _) _).setCell (fun _ => Nat.le_refl _) _).setCell (fun _ => Nat.le_refl _) _).setCell (fun _ => Nat.le_refl _) _).setCell (fun _ => Nat.le_refl _) _, ?_, ?_⟩
            all_goals first | (go_simp; done) | (simpa using sl3) | (simpa using sl4)
          clear hK K
          (try simp only [Act.put, List.setIfInBounds_toArray, List.set_cons_zero, List.set_cons_succ])
          refine wpAnyH_take (i := 12) (oi := ?_) (v := ?_) ?_ (by kernel_rfl) (by kernel_rfl) (by kernel_rfl) ?_ (Or.inl ⟨?_, ?_⟩) hHeld ?_
          rotate_left 2
          · simp only [List.getElem?_toArray, List.getElem?_cons_zero, List.getElem?_cons_succ]; rfl
          · exact fun _ _ _ h => h
          · rfl
          · intro w' hSw; (try dsimp only at hSw); go_simp; (try with_reducible rfl)
          (try simp only [Act.put, List.setIfInBounds_toArray, List.set_cons_zero, List.set_cons_succ])
          refine wpAnyH_take (i := 13) (oi := ?_) (v := ?_) ?_ (by kernel_rfl) (by kernel_rfl) (by kernel_rfl) ?_ (Or.inl ⟨?_, ?_⟩) hHeld ?_
          rotate_left 2
          · simp only [List.getElem?_toArray, List.getElem?_cons_zero, List.getElem?_cons_succ]; rfl
          · exact fun _ _ _ h => h
          · rfl
          · intro w' hSw; (try dsimp only at hSw); go_simp; (try with_reducible rfl)
          (try simp only [Act.put, List.setIfInBounds_toArray, List.set_cons_zero, List.set_cons_succ])
          refine wpAnyH_done (by kernel_rfl) ?_ _
          clear hHeld
          go_wp2
          refine bodyPost_ret (v := .tuple #[evN k N, .int .i64 ((l.length : Int) - S.l.length), .int .i64 0]) (by simp [results, Try.results25, go_sem, *, evN]) rfl ?_
          exact ⟨.inr ⟨by rw [HGL.out]; exact hz, by rw [HGL.out, ← HK.out]⟩, (((((sc.setCell (fun _ => Nat.le_refl _) _).setCell (fun _ => Nat.le_refl _) _).setCell (fun _ => Nat.le_refl _) _).setCell (fun _ => Nat.le_refl _) _).setCell (fun _ => Nat.le_refl _) _).below (Nat.le_refl _) (fun k hk h => by omega)⟩
        · have hz1 : (S.why != 0) = true := by simpa using hz
          clear hc0 hc1 hc2 hc3 hf0
          go_wp2_with fail
          go_region
          go_wp2
          refine bodyPost_ret (v := .tuple #[ev0, .int .i64 0, .int .i64 S.why]) (by simp [results, Try.results25, go_sem, *]; rfl) rfl ?_
          exact ⟨.inl ⟨by rw [HGL.out]; exact hz, by rw [HGL.out]⟩, ((((((HQr.out.setCell (fun _ => Nat.le_refl _) _).setCell (fun _ => Nat.le_refl _) _).setCell (fun _ => Nat.le_refl _) _).setCell (fun _ => Nat.le_refl _) _).setCell (fun _ => Nat.le_refl _) _).drew).below (Nat.le_refl _) (fun k hk h => by omega)⟩
end Go.Proofs.Ytpefmgmhclbcbaa.WireF
