/- The contract of Put of layer 26. No condition beyond the numbers' own kinds. -/
import Derived.Test.YtpefmgmhclbcbaaWireF
import Derived.RegionTactic
import Derived.ChangeAlike
import Derived.Laws.AppendOwnNone
namespace Go.Proofs.Ytpefmgmhclbcbaa.WireG
open Go.RowKit Go.Proofs.Ytpefmgmhclbcbaa.Frame Go.Proofs.Ytpefmgmhclbcbaa.WireA Go.Proofs.Ytpefmgmhclbcbaa.WireB Go.Proofs.Ytpefmgmhclbcbaa.WireC Go.Proofs.Ytpefmgmhclbcbaa.WireD Go.Proofs.Ytpefmgmhclbcbaa.WireE Go.Proofs.Ytpefmgmhclbcbaa.WireF
set_option linter.unusedVariables false
set_option linter.unusedSimpArgs false
def vals (l : List Int) : List Value := l.map (Value.int .u8)
def nsOf (cpu id mask n : Int) : Nat → Int := fun i => match i with | 0 => cpu | 1 => id | 2 => s64 mask | _ => n
/-- A slice of bytes of the call's own. -/
def OwnB (B : Nat) (w : World) (v : Value) (l : List Int) : Prop := w.ownsRow B 5 1 v l.length (vals l)
theorem vals_len (l : List Int) : (vals l).length = l.length := by simp [vals]
theorem vals_app (a b : List Int) : vals (a ++ b) = vals a ++ vals b := by simp [vals]
theorem OwnB.nil (B : Nat) (w : World) : OwnB B w (.slice none 0 0) [] := World.ownsRow_nil _ _ _ _
theorem OwnB.form {B : Nat} {w : World} {v : Value} {l : List Int} (h : OwnB B w v l) (hn : l ≠ []) : ∃ g cap, v = .slice (some ⟨g, 0, none⟩) l.length cap ∧ B ≤ g ∧ g < w.heap.size ∧ l.length ≤ cap ∧ cap ≤ maxLen ∧
    (∀ i x, l[i]? = some x → w.cell? ⟨g, i, none⟩ = some (.int .u8 x)) ∧ ∀ i, w.frozen? ⟨g, i, none⟩ = false := by
  have hl : 0 < l.length := List.length_pos_iff.2 hn
  rcases h with ⟨h0, ⟨rfl, h1⟩ | ⟨g, cap, cur, rfl, hb, hc, hcap, hm, hs, ht⟩⟩
  · omega
  · have hown : w.ownsRow B 5 1 (.slice (some ⟨g, 0, none⟩) l.length cap) l.length (vals l) := ⟨h0, .inr ⟨g, cap, cur, rfl, hb, hc, hcap, hm, hs, ht⟩⟩
    refine ⟨g, cap, rfl, hb, (Array.getElem?_eq_some_iff.1 hc).1, hcap, hm, fun i x hx => ?_, fun i => hown.frozenAt i⟩
    have hi : i < l.length := (List.getElem?_eq_some_iff.1 hx).1
    rw [hown.cellAt i (by omega)]
    simp [vals, hx]
/-- What the call's own slice reads as, for a reader. -/
theorem OwnB.at {B : Nat} {w : World} {v : Value} {l : List Int} (h : OwnB B w v l) : ∃ a cap, v = .slice a l.length cap ∧ BytesAt w.heap.size w a cap l := by
  cases l with
  | nil =>
    rcases h with ⟨h0, ⟨rfl, h1⟩ | ⟨g, cap, cur, rfl, hb, hc, hcap, hm, hs, ht⟩⟩
    · exact ⟨none, 0, rfl, BytesAt.nil (Nat.zero_le _)⟩
    · exact ⟨_, cap, rfl, BytesAt.nil hm⟩
  | cons b t =>
    obtain ⟨g, cap, rfl, hb, hg, hcap, hm, hall, _⟩ := h.form (by simp)
    exact ⟨_, cap, rfl, hcap, hm, fun _ => ⟨g, 0, rfl, hg, fun i x hx => by rw [Nat.zero_add]; exact hall i x hx⟩⟩
theorem OwnB.ch {B : Nat} {w w' : World} {v : Value} {l : List Int} (h : OwnB B w v l) {F : Nat → Prop} (hc : Ch F w w') (hF : ∀ g, v.ownBlock = some g → ¬ F g) : OwnB B w' v l := by
  rcases h with ⟨h0, h1 | ⟨g, cap, cur, rfl, hb, hcc, hcap, hm, hs, ht⟩⟩
  · exact ⟨h0, .inl h1⟩
  · exact ⟨h0, .inr ⟨g, cap, cur, rfl, hb, (hc.block g (Array.getElem?_eq_some_iff.1 hcc).1 (hF g rfl)).trans hcc, hcap, hm, hs, ht⟩⟩
theorem OwnB.below {B : Nat} {w w' : World} {v : Value} {l : List Int} (h : OwnB B w v l) (hb : Below w.heap.size w w') : OwnB B w' v l := h.ch (Ch.of_below (F := fun _ => False) hb) (fun _ _ => id)
theorem OwnB.alloc {B : Nat} {w : World} {v : Value} {l : List Int} (h : OwnB B w v l) (o : Obj) : OwnB B (w.alloc o) v l := World.ownsRow.alloc h o
theorem below_grown {B : Nat} {a w w' : World} {v : Value} {l : List Int} (h : Below B a w) (hown : OwnB B w v l) (hg : w.grownBy w' v.ownBlock) (hB : B ≤ w.heap.size) : Below B a w' :=
  ⟨hg.os.trans h.os, hg.tape.trans h.tape, hg.output.trans h.output, Nat.le_trans h.size hg.size, fun i hi => (hg.block i (by omega) (fun e => by
    have := World.ownsRow.lt hown i e.symm
    omega)).trans (h.block i hi)⟩
theorem add_plain (b off i : Nat) : (⟨b, off, none⟩ : Addr).add i = ⟨b, off + i, none⟩ := by
  unfold Addr.add
  split
  · subst_vars; rfl
  · rfl
theorem append_bytes {ops : Array Oper} {rest : List Oper} {o : Oper} {a : Act} {w : World} {Q : Exit → Act → World → Prop} (hgd : o.guard = none) (s x : Operand)
    (ho : o.op = .call { callee := .builtin .append, args := #[s, x], argTypes := #[41, 41] }) (B : Nat) (v : Value) (l : List Int) (hs : a.eval s = v) (hO : OwnB B w v l)
    (ad : Option Addr) (c : Nat) (l2 : List Int) (hx : a.eval x = .slice ad l2.length c) (hA : BytesAt w.heap.size w ad c l2) (hnil : ad = none → c = 0) (hlen : l.length + l2.length ≤ 1000000000) (hB : B ≤ w.heap.size)
    (h : ∀ v' w', OwnB B w' v' (l ++ l2) → w.grownBy w' v.ownBlock → wpList Try.prog ops Q rest (a.put o.dst v') w') : wpList Try.prog ops Q (o :: rest) a w := by
  obtain ⟨i0, hi0, hz0, hz1, hz3⟩ := info_parts Try.info5
  have fin : ∀ v' w', w'.ownsRow B 5 1 v' (l.length + l2.length) (vals l ++ vals l2) → w.grownBy w' v.ownBlock → wpList Try.prog ops Q rest (a.put o.dst v') w' := fun v' w' h1 h2 =>
    h v' w' (by unfold OwnB; rw [List.length_append, vals_app]; exact h1) h2
  cases ad with
  | none =>
    have e : l2 = [] := by
      cases l2 with
      | nil => rfl
      | cons b t => obtain ⟨_, _, e, _⟩ := hA.2.2 (by simp); cases e
    subst e
    obtain rfl := hnil rfl
    refine wpList_append_own_none hgd s x 41 ho B 5 i0 1 Try.underlying41 hi0 v l.length (vals l) hs hO hx ?_
    exact fin v w (by simpa [vals, OwnB] using hO) (World.grownBy.refl _ _)
  | some ad =>
    refine wpList_append_own w hgd s x 41 ho B 5 i0 (.int .u8 0) 1 1 Try.underlying41 hi0 hz0 hz1 hz3 rfl (by decide) v l.length (vals l) hs hO ad l2.length c (vals l2) hx (by rw [vals_len]; omega) ?_ ?_ (by unfold maxLen; omega) (by omega) hB (fun v' w' h1 h2 _ => fin v' w' h1 h2)
    · intro j u hj
      cases l2 with
      | nil => simp [vals] at hj
      | cons b t =>
        obtain ⟨b2, off, e, _, hall⟩ := hA.2.2 (by simp)
        obtain rfl : ad = ⟨b2, off, none⟩ := by simpa using e
        simp only [vals, List.getElem?_map] at hj
        cases hq : (b :: t)[j]? with
        | none => rw [hq] at hj; cases hj
        | some y =>
          rw [hq] at hj
          cases hj
          rw [add_plain]
          exact hall j y hq
    · intro u hu
      simp only [vals, List.mem_map] at hu
      obtain ⟨y, _, rfl⟩ := hu
      rfl
theorem one_at (w : World) (x : Int) : BytesAt (w.alloc (.cells #[.int .u8 x] 5)).heap.size (w.alloc (.cells #[.int .u8 x] 5)) (some ⟨w.heap.size, 0, none⟩) 1 [x] :=
  ⟨Nat.le_refl _, by unfold maxLen; omega, fun _ => ⟨_, 0, rfl, by simp, fun i y hy => by
    rcases i with _ | i
    · simp at hy
      subst hy
      simp [World.cell?_alloc_new]
    · simp at hy⟩⟩
/-- One number's bytes. -/
def Put (w : World) (l : List Int) (e : Ending) (w' : World) : Prop := ∃ v, e = .returned v ∧ OwnB w.heap.size w' v l ∧ Below w.heap.size w w'
theorem or_pw (W P : Int) (h : (W = 0 ∧ P = 1) ∨ ((W = 0 ∨ W = 1) ∧ P = 2) ∨ (0 ≤ W ∧ W ≤ 3 ∧ P = 4) ∨ (0 ≤ W ∧ W ≤ 7 ∧ P = 8)) : bits .or .u8 W P = W + P := by
  rcases h with ⟨rfl, rfl⟩ | ⟨rfl | rfl, rfl⟩ | ⟨h1, h2, rfl⟩ | ⟨h1, h2, rfl⟩
  · decide
  · decide
  · decide
  · rcases (by omega : W = 0 ∨ W = 1 ∨ W = 2 ∨ W = 3) with rfl | rfl | rfl | rfl <;> decide
  · rcases (by omega : W = 0 ∨ W = 1 ∨ W = 2 ∨ W = 3 ∨ W = 4 ∨ W = 5 ∨ W = 6 ∨ W = 7) with rfl | rfl | rfl | rfl | rfl | rfl | rfl | rfl <;> decide
theorem which_lo (ns : Nat → Int) : whichN ns 0 = 0 ∧ (whichN ns 1 = 0 ∨ whichN ns 1 = 1) ∧ (0 ≤ whichN ns 2 ∧ whichN ns 2 ≤ 3) ∧ (0 ≤ whichN ns 3 ∧ whichN ns 3 ≤ 7) := by
  simp only [whichN, pw]
  by_cases a : ns 0 = 0 <;> by_cases b : ns 1 = 0 <;> by_cases c : ns 2 = 0 <;> simp [a, b, c]
theorem which_or (ns : Nat → Int) (i : Nat) (hi : i < 4) : bits .or .u8 (whichN ns i) (pw i) = whichN ns i + pw i := by
  obtain ⟨h0, h1, h2, h3⟩ := which_lo ns
  rcases i with _ | _ | _ | _ | i
  · exact or_pw _ _ (.inl ⟨h0, rfl⟩)
  · exact or_pw _ _ (.inr (.inl ⟨h1, rfl⟩))
  · exact or_pw _ _ (.inr (.inr (.inl ⟨h2.1, h2.2, rfl⟩)))
  · exact or_pw _ _ (.inr (.inr (.inr ⟨h3.1, h3.2, rfl⟩)))
  · omega
theorem u8_wrap (n : Int) : IntKind.u8.wrap n = n % 256 := by simp [IntKind.wrap, IntKind.bits, IntKind.signed]
theorem pow_pw (i : Nat) (hi : i < 4) : (2 : Int) ^ i % 256 = pw i := by
  rcases (by omega : i = 0 ∨ i = 1 ∨ i = 2 ∨ i = 3) with rfl | rfl | rfl | rfl <;> decide
theorem OwnB.set1 {B g cap : Nat} {w : World} {k W : Int} {l : List Int} (h : OwnB B w (.slice (some ⟨g, 0, none⟩) (k :: W :: l).length cap) (k :: W :: l)) (W' : Int) :
    OwnB B (w.setCell ⟨g, 1, none⟩ (.int .u8 W')) (.slice (some ⟨g, 0, none⟩) (k :: W :: l).length cap) (k :: W' :: l) := (World.ownsRow.stored h 1 (.int .u8 W')).1
set_option maxHeartbeats 2000000 in
theorem put_no (kind cpu id mask n : Int) (w : World) (hk : kind < 1 ∨ 30 < kind) : Calls Try.prog 23 #[.agg #[.int .i64 kind, .int .i64 cpu, .int .i64 id, .int .u64 mask, .int .i64 n]] w (Put w []) := by
  rcases hk with h | h
  all_goals
    go_enter Try.func23, Try.ntmps23
    go_wp2
    go_returns
    exact ⟨_, rfl, OwnB.nil _ _, by go_grown⟩
set_option maxRecDepth 100000 in
set_option maxHeartbeats 4000000 in
theorem put_yes (kind cpu id mask n : Int) (w : World) (h1 : 1 ≤ kind) (h2 : kind ≤ 30) (hn : ∀ i, i < 4 → In64 (nsOf cpu id mask n i)) :
    Calls Try.prog 23 #[.agg #[.int .i64 kind, .int .i64 cpu, .int .i64 id, .int .u64 mask, .int .i64 n]] w (Put w (putL kind (nsOf cpu id mask n))) := by
  have HN := Lib.hid hn
  clear hn
  go_enter Try.func23, Try.ntmps23
  go_wp2_with fail
  refine (numbers_any _ _ _ _ _ _).mono ?_
  rintro e w1 ⟨rfl, hb1⟩
  have hO1 : OwnB w.heap.size w1 (.slice (some ⟨w.heap.size + 1, 0, none⟩) 2 2) [kind, 0] := by
    refine OwnB.below (w := _) ?_ hb1
    have := World.ownsRow_lit (base := w.heap.size) (e := 5) (size := 1) (w.alloc (.cells #[.int .i64 kind, .int .i64 cpu, .int .i64 id, .int .u64 mask, .int .i64 n] 40)) #[.int .u8 kind, .int .u8 0] 2 (by simp) (by unfold maxLen; omega) rfl
    rw [World.size_alloc] at this
    exact this
  have hW1 : Below w.heap.size w w1 := (((Below.refl _ _).alloc (Nat.le_refl _) _).alloc (by simp) _).trans (hb1.mono (by simp; omega))
  have HO1 := Lib.hid hO1
  have HW1 := Lib.hid hW1
  clear hb1 hO1 hW1
  have HIDX : Hid (∀ (i : Nat), i < 4 → ∀ W : World, (Instr.index 96 (.agg #[.int .i64 cpu, .int .i64 id, .int .i64 (s64 mask), .int .i64 n]) (.int .i64 (i : Int))).run Try.prog W = .ok (.int .i64 (nsOf cpu id mask n i)) W) := Lib.hid (by
    intro i hi W
    rcases (by omega : i = 0 ∨ i = 1 ∨ i = 2 ∨ i = 3) with rfl | rfl | rfl | rfl <;> kernel_rfl)
  go_wp2_with fail
  go_loopw [3, 21] (fun v c wr => ∃ i : Nat, i ≤ 4 ∧ c = .int .i64 i ∧ OwnB w.heap.size wr v (kind :: whichN (nsOf cpu id mask n) i :: bodyN (nsOf cpu id mask n) i) ∧ (bodyN (nsOf cpu id mask n) i).length ≤ 9 * i ∧ Below w.heap.size w wr) (fun _ c _ => 4 - (intOf c).toNat)
  case atStart => exact ⟨0, by omega, rfl, HO1.out, by simp [bodyN], HW1.out⟩
  case round =>
    obtain ⟨i, hi, rfl, hO, hlen, hW⟩ := hrel
    have hz := hW.size
    have HO := Lib.hid hO
    have HW := Lib.hid hW
    have HL := Lib.hid hlen
    clear hO hW hlen HO1 HW1
    generalize hns : nsOf cpu id mask n = ns at *
    by_cases hlt : i < 4
    · have hidx := HIDX.out i hlt
      by_cases h0 : ns i = 0
      · have h0b : (ns i == 0) = true := by simpa using h0
        have HE : Hid (whichN ns (i + 1) = whichN ns i ∧ bodyN ns (i + 1) = bodyN ns i) := Lib.hid ⟨by show whichN ns i + (if ns i = 0 then 0 else pw i) = _; rw [if_pos h0]; omega, by show bodyN ns i ++ numL (ns i) = _; unfold numL; rw [if_pos h0, List.append_nil]⟩
        clear h0
        go_wp2
        go_roundw
        case rel => exact ⟨i + 1, by omega, by go_num, by rw [HE.out.1, HE.out.2]; exact HO.out, by rw [HE.out.2]; have := HL.out; omega, HW.out⟩
        case measure => simp [intOf]; omega
      · have h0b : (ns i == 0) = false := by simpa using h0
        go_upto_region 8 with fail
        obtain ⟨g, cap, rfl, hg1, hg2, hg3, hg4, hcells, hfz⟩ := HO.out.form (by simp)
        have hc1 : wr.cell? ⟨g, 1, none⟩ = some (.int .u8 (whichN ns i)) := hcells 1 _ rfl
        have hf1 := hfz 1
        have hor : bits .or .u8 (whichN ns i) (2 ^ i % 256) = whichN ns (i + 1) := by rw [pow_pw i hlt, which_or ns i hlt]; show _ = whichN ns i + (if ns i = 0 then 0 else pw i); rw [if_neg h0]
        clear hcells hfz
        go_cut [32] (fun v wx => OwnB w.heap.size wx (.slice (some ⟨g, 0, none⟩) (kind :: whichN ns i :: bodyN ns i).length cap) (kind :: whichN ns (i + 1) :: bodyN ns i) ∧ Below w.heap.size w wx)
        case first =>
          generalize whichN ns (i + 1) = W' at *
          generalize whichN ns i = W at *
          go_region
          go_wp2
          go_meet
          exact ⟨HO.out.set1 W', (HW.out.setCell hg1 _).drew⟩
        case rest =>
          obtain ⟨hO2, hW2⟩ := hcut
          have HO2 := Lib.hid hO2
          have HW2 := Lib.hid hW2
          have hz2 := hW2.size
          have HNI := Lib.hid (HN.out i hlt)
          have hwl := width_lo (ns i)
          clear hO2 hW2 HO HW hc1 hf1 hor
          go_wp2_with fail
          refine (width_any _ HNI.out _).mono ?_
          rintro e w' ⟨rfl, rfl⟩
          have HWD : Hid (numL (ns i) = (width (ns i) : Int) :: bytesOf (ns i) (width (ns i))) := Lib.hid (by unfold numL; rw [if_neg h0])
          obtain ⟨q1, q2⟩ := hwl
          generalize hm : width (ns i) = m at *
          have q3 : (m : Int) ≤ 255 := by omega
          have HM := Lib.hid hm
          clear hm
          go_wp2_with (at_builtin; refine append_bytes rfl _ _ rfl w.heap.size _ _ rfl (HO2.out.alloc _) _ _ [(m : Int)] rfl (one_at _ _) (fun h => by cases h) ?c1 ?c2 ?_)
          case c1 => have := HL.out; simp; omega
          case c2 => simp; omega
          intro v3 w3 hO3 hg3
          have HO3 : Hid (OwnB w.heap.size w3 v3 (kind :: whichN ns (i + 1) :: bodyN ns i ++ ((m : Int) :: []))) := Lib.hid hO3
          have HG3 := Lib.hid (below_grown (HW2.out.alloc HW2.out.size _) (HO2.out.alloc _) hg3 (by have := HW2.out.size; simp; omega))
          clear hO3 hg3 HO2 HW2
          have HNN : Hid (bodyN ns (i + 1) = bodyN ns i ++ numL (ns i)) := Lib.hid rfl
          generalize ns i = N at *
          have hsz3 := HG3.out.size
          go_wp2_with fail
          go_loopw [3, 6] (fun v c wi => ∃ (j : Nat) (T : List Int), j ≤ m ∧ c = .int .i64 ((j : Int) - 1) ∧ Hid (T ++ bytesOf N j = bytesOf N m) ∧ OwnB w.heap.size wi v (kind :: whichN ns (i + 1) :: bodyN ns i ++ ((m : Int) :: T)) ∧ Below w.heap.size w wi) (fun _ c _ => (intOf c + 1).toNat)
          case atStart => exact ⟨m, [], Nat.le_refl _, rfl, Lib.hid rfl, HO3.out, HG3.out⟩
          case round =>
            obtain ⟨j, T, hj, rfl, HTB, hOi, hGi⟩ := hrel
            have HOi := Lib.hid hOi
            have HGi := Lib.hid hGi
            have hzi := hGi.size
            have HLT : Hid ((kind :: whichN ns (i + 1) :: bodyN ns i ++ ((m : Int) :: T)).length ≤ 1000) := Lib.hid (by
              have h1 := congrArg List.length HTB.out
              simp only [List.length_append, bytes_len] at h1
              have := HL.out
              simp
              omega)
            clear hOi hGi HO3 HG3
            rcases (by omega : j = 0 ∨ j = 1 ∨ j = 2 ∨ j = 3 ∨ j = 4 ∨ j = 5 ∨ j = 6 ∨ j = 7 ∨ j = 8) with rfl | rfl | rfl | rfl | rfl | rfl | rfl | rfl | rfl
            · have HT : Hid (T = bytesOf N m) := Lib.hid (by have := HTB.out; simpa [bytesOf] using this)
              have HFIN : Hid (kind :: whichN ns (i + 1) :: bodyN ns i ++ ((m : Int) :: T) = kind :: whichN ns (i + 1) :: bodyN ns (i + 1)) := Lib.hid (by rw [HNN.out, HWD.out, HT.out]; simp)
              go_wp2
              go_roundw
              case rel => exact ⟨i + 1, by omega, by go_num, by rw [← HFIN.out]; exact HOi.out, by rw [HNN.out, HWD.out, List.length_append]; have := HL.out; simp [bytes_len]; omega, HGi.out⟩
              case measure => simp [intOf]; omega
            · have HBY : Hid (bytesOf N 1 = byteAt N 0 :: bytesOf N 0) := Lib.hid rfl
              have HBA : Hid (IntKind.u8.wrap (N) = byteAt N 0) := Lib.hid (by rw [u8_wrap]; unfold byteAt; simp [p8])
              go_wp2_with (at_builtin; refine append_bytes rfl _ _ rfl w.heap.size _ _ rfl (HOi.out.alloc _) _ _ [IntKind.u8.wrap (N)] rfl (one_at _ _) (fun h => by cases h) ?_ ?_ ?_)
              · have h := HLT.out; simp at h ⊢; omega
              · have := HGi.out.size; simp; omega
              · intro v4 w4 hO4 hg4
                have HO4 : Hid (OwnB w.heap.size w4 v4 (kind :: whichN ns (i + 1) :: bodyN ns i ++ ((m : Int) :: (T ++ [byteAt N 0])))) := Lib.hid (by rw [← HBA.out]; simpa using hO4)
                have HG4 := Lib.hid (below_grown (HGi.out.alloc HGi.out.size _) (HOi.out.alloc _) hg4 (by have := HGi.out.size; simp; omega))
                clear hO4 hg4
                go_wp2
                go_roundw
                case rel => exact ⟨0, T ++ [byteAt N 0], by omega, by first | rfl | go_num, Lib.hid (by rw [List.append_assoc, List.singleton_append, ← HBY.out]; exact HTB.out), HO4.out, HG4.out⟩
                case measure => simp [intOf]
            · have HBY : Hid (bytesOf N 2 = byteAt N 1 :: bytesOf N 1) := Lib.hid rfl
              have HBA : Hid (IntKind.u8.wrap (N / 256) = byteAt N 1) := Lib.hid (by rw [u8_wrap]; unfold byteAt; rfl)
              go_wp2_with (at_builtin; refine append_bytes rfl _ _ rfl w.heap.size _ _ rfl (HOi.out.alloc _) _ _ [IntKind.u8.wrap (N / 256)] rfl (one_at _ _) (fun h => by cases h) ?_ ?_ ?_)
              · have h := HLT.out; simp at h ⊢; omega
              · have := HGi.out.size; simp; omega
              · intro v4 w4 hO4 hg4
                have HO4 : Hid (OwnB w.heap.size w4 v4 (kind :: whichN ns (i + 1) :: bodyN ns i ++ ((m : Int) :: (T ++ [byteAt N 1])))) := Lib.hid (by rw [← HBA.out]; simpa using hO4)
                have HG4 := Lib.hid (below_grown (HGi.out.alloc HGi.out.size _) (HOi.out.alloc _) hg4 (by have := HGi.out.size; simp; omega))
                clear hO4 hg4
                go_wp2
                go_roundw
                case rel => exact ⟨1, T ++ [byteAt N 1], by omega, by first | rfl | go_num, Lib.hid (by rw [List.append_assoc, List.singleton_append, ← HBY.out]; exact HTB.out), HO4.out, HG4.out⟩
                case measure => simp [intOf]
            · have HBY : Hid (bytesOf N 3 = byteAt N 2 :: bytesOf N 2) := Lib.hid rfl
              have HBA : Hid (IntKind.u8.wrap (N / 65536) = byteAt N 2) := Lib.hid (by rw [u8_wrap]; unfold byteAt; rfl)
              go_wp2_with (at_builtin; refine append_bytes rfl _ _ rfl w.heap.size _ _ rfl (HOi.out.alloc _) _ _ [IntKind.u8.wrap (N / 65536)] rfl (one_at _ _) (fun h => by cases h) ?_ ?_ ?_)
              · have h := HLT.out; simp at h ⊢; omega
              · have := HGi.out.size; simp; omega
              · intro v4 w4 hO4 hg4
                have HO4 : Hid (OwnB w.heap.size w4 v4 (kind :: whichN ns (i + 1) :: bodyN ns i ++ ((m : Int) :: (T ++ [byteAt N 2])))) := Lib.hid (by rw [← HBA.out]; simpa using hO4)
                have HG4 := Lib.hid (below_grown (HGi.out.alloc HGi.out.size _) (HOi.out.alloc _) hg4 (by have := HGi.out.size; simp; omega))
                clear hO4 hg4
                go_wp2
                go_roundw
                case rel => exact ⟨2, T ++ [byteAt N 2], by omega, by first | rfl | go_num, Lib.hid (by rw [List.append_assoc, List.singleton_append, ← HBY.out]; exact HTB.out), HO4.out, HG4.out⟩
                case measure => simp [intOf]
            · have HBY : Hid (bytesOf N 4 = byteAt N 3 :: bytesOf N 3) := Lib.hid rfl
              have HBA : Hid (IntKind.u8.wrap (N / 16777216) = byteAt N 3) := Lib.hid (by rw [u8_wrap]; unfold byteAt; rfl)
              go_wp2_with (at_builtin; refine append_bytes rfl _ _ rfl w.heap.size _ _ rfl (HOi.out.alloc _) _ _ [IntKind.u8.wrap (N / 16777216)] rfl (one_at _ _) (fun h => by cases h) ?_ ?_ ?_)
              · have h := HLT.out; simp at h ⊢; omega
              · have := HGi.out.size; simp; omega
              · intro v4 w4 hO4 hg4
                have HO4 : Hid (OwnB w.heap.size w4 v4 (kind :: whichN ns (i + 1) :: bodyN ns i ++ ((m : Int) :: (T ++ [byteAt N 3])))) := Lib.hid (by rw [← HBA.out]; simpa using hO4)
                have HG4 := Lib.hid (below_grown (HGi.out.alloc HGi.out.size _) (HOi.out.alloc _) hg4 (by have := HGi.out.size; simp; omega))
                clear hO4 hg4
                go_wp2
                go_roundw
                case rel => exact ⟨3, T ++ [byteAt N 3], by omega, by first | rfl | go_num, Lib.hid (by rw [List.append_assoc, List.singleton_append, ← HBY.out]; exact HTB.out), HO4.out, HG4.out⟩
                case measure => simp [intOf]
            · have HBY : Hid (bytesOf N 5 = byteAt N 4 :: bytesOf N 4) := Lib.hid rfl
              have HBA : Hid (IntKind.u8.wrap (N / 4294967296) = byteAt N 4) := Lib.hid (by rw [u8_wrap]; unfold byteAt; rfl)
              go_wp2_with (at_builtin; refine append_bytes rfl _ _ rfl w.heap.size _ _ rfl (HOi.out.alloc _) _ _ [IntKind.u8.wrap (N / 4294967296)] rfl (one_at _ _) (fun h => by cases h) ?_ ?_ ?_)
              · have h := HLT.out; simp at h ⊢; omega
              · have := HGi.out.size; simp; omega
              · intro v4 w4 hO4 hg4
                have HO4 : Hid (OwnB w.heap.size w4 v4 (kind :: whichN ns (i + 1) :: bodyN ns i ++ ((m : Int) :: (T ++ [byteAt N 4])))) := Lib.hid (by rw [← HBA.out]; simpa using hO4)
                have HG4 := Lib.hid (below_grown (HGi.out.alloc HGi.out.size _) (HOi.out.alloc _) hg4 (by have := HGi.out.size; simp; omega))
                clear hO4 hg4
                go_wp2
                go_roundw
                case rel => exact ⟨4, T ++ [byteAt N 4], by omega, by first | rfl | go_num, Lib.hid (by rw [List.append_assoc, List.singleton_append, ← HBY.out]; exact HTB.out), HO4.out, HG4.out⟩
                case measure => simp [intOf]
            · have HBY : Hid (bytesOf N 6 = byteAt N 5 :: bytesOf N 5) := Lib.hid rfl
              have HBA : Hid (IntKind.u8.wrap (N / 1099511627776) = byteAt N 5) := Lib.hid (by rw [u8_wrap]; unfold byteAt; rfl)
              go_wp2_with (at_builtin; refine append_bytes rfl _ _ rfl w.heap.size _ _ rfl (HOi.out.alloc _) _ _ [IntKind.u8.wrap (N / 1099511627776)] rfl (one_at _ _) (fun h => by cases h) ?_ ?_ ?_)
              · have h := HLT.out; simp at h ⊢; omega
              · have := HGi.out.size; simp; omega
              · intro v4 w4 hO4 hg4
                have HO4 : Hid (OwnB w.heap.size w4 v4 (kind :: whichN ns (i + 1) :: bodyN ns i ++ ((m : Int) :: (T ++ [byteAt N 5])))) := Lib.hid (by rw [← HBA.out]; simpa using hO4)
                have HG4 := Lib.hid (below_grown (HGi.out.alloc HGi.out.size _) (HOi.out.alloc _) hg4 (by have := HGi.out.size; simp; omega))
                clear hO4 hg4
                go_wp2
                go_roundw
                case rel => exact ⟨5, T ++ [byteAt N 5], by omega, by first | rfl | go_num, Lib.hid (by rw [List.append_assoc, List.singleton_append, ← HBY.out]; exact HTB.out), HO4.out, HG4.out⟩
                case measure => simp [intOf]
            · have HBY : Hid (bytesOf N 7 = byteAt N 6 :: bytesOf N 6) := Lib.hid rfl
              have HBA : Hid (IntKind.u8.wrap (N / 281474976710656) = byteAt N 6) := Lib.hid (by rw [u8_wrap]; unfold byteAt; rfl)
              go_wp2_with (at_builtin; refine append_bytes rfl _ _ rfl w.heap.size _ _ rfl (HOi.out.alloc _) _ _ [IntKind.u8.wrap (N / 281474976710656)] rfl (one_at _ _) (fun h => by cases h) ?_ ?_ ?_)
              · have h := HLT.out; simp at h ⊢; omega
              · have := HGi.out.size; simp; omega
              · intro v4 w4 hO4 hg4
                have HO4 : Hid (OwnB w.heap.size w4 v4 (kind :: whichN ns (i + 1) :: bodyN ns i ++ ((m : Int) :: (T ++ [byteAt N 6])))) := Lib.hid (by rw [← HBA.out]; simpa using hO4)
                have HG4 := Lib.hid (below_grown (HGi.out.alloc HGi.out.size _) (HOi.out.alloc _) hg4 (by have := HGi.out.size; simp; omega))
                clear hO4 hg4
                go_wp2
                go_roundw
                case rel => exact ⟨6, T ++ [byteAt N 6], by omega, by first | rfl | go_num, Lib.hid (by rw [List.append_assoc, List.singleton_append, ← HBY.out]; exact HTB.out), HO4.out, HG4.out⟩
                case measure => simp [intOf]
            · have HBY : Hid (bytesOf N 8 = byteAt N 7 :: bytesOf N 7) := Lib.hid rfl
              have HBA : Hid (IntKind.u8.wrap (N / 72057594037927936) = byteAt N 7) := Lib.hid (by rw [u8_wrap]; unfold byteAt; rfl)
              go_wp2_with (at_builtin; refine append_bytes rfl _ _ rfl w.heap.size _ _ rfl (HOi.out.alloc _) _ _ [IntKind.u8.wrap (N / 72057594037927936)] rfl (one_at _ _) (fun h => by cases h) ?_ ?_ ?_)
              · have h := HLT.out; simp at h ⊢; omega
              · have := HGi.out.size; simp; omega
              · intro v4 w4 hO4 hg4
                have HO4 : Hid (OwnB w.heap.size w4 v4 (kind :: whichN ns (i + 1) :: bodyN ns i ++ ((m : Int) :: (T ++ [byteAt N 7])))) := Lib.hid (by rw [← HBA.out]; simpa using hO4)
                have HG4 := Lib.hid (below_grown (HGi.out.alloc HGi.out.size _) (HOi.out.alloc _) hg4 (by have := HGi.out.size; simp; omega))
                clear hO4 hg4
                go_wp2
                go_roundw
                case rel => exact ⟨7, T ++ [byteAt N 7], by omega, by first | rfl | go_num, Lib.hid (by rw [List.append_assoc, List.singleton_append, ← HBY.out]; exact HTB.out), HO4.out, HG4.out⟩
                case measure => simp [intOf]
    · obtain rfl : i = 4 := by omega
      go_wp2
      go_returns
      have e : putL kind ns = kind :: whichN ns 4 :: bodyN ns 4 := if_pos ⟨h1, h2⟩
      exact ⟨_, rfl, by rw [e]; exact HO.out, HW.out⟩
end Go.Proofs.Ytpefmgmhclbcbaa.WireG
