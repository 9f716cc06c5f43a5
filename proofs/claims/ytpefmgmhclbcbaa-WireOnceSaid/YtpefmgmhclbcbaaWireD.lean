/- Contracts of the reader of bytes of layer 26. -/
import Derived.Test.YtpefmgmhclbcbaaWireC
import Derived.OwnWalk
import Derived.Laws.OwnMore
import Derived.Deep.DeepCutAuto
namespace Go.Proofs.Ytpefmgmhclbcbaa.WireD
open Go.RowKit Go.Proofs.Ytpefmgmhclbcbaa.Frame Go.Proofs.Ytpefmgmhclbcbaa.WireA Go.Proofs.Ytpefmgmhclbcbaa.WireB Go.Proofs.Ytpefmgmhclbcbaa.WireC
set_option linter.unusedVariables false
set_option linter.unusedSimpArgs false
/-- A slice of bytes that reads as a list; its block lies below H. -/
def BytesAt (H : Nat) (w : World) (a : Option Addr) (cap : Nat) (l : List Int) : Prop :=
  l.length ≤ cap ∧ cap ≤ maxLen ∧ (l ≠ [] → ∃ b off, a = some ⟨b, off, none⟩ ∧ b < H ∧ ∀ i x, l[i]? = some x → w.cell? ⟨b, off + i, none⟩ = some (.int .u8 x))
theorem BytesAt.ch {H : Nat} {w w' : World} {a : Option Addr} {cap : Nat} {l : List Int} (h : BytesAt H w a cap l) {F : Nat → Prop} (hc : Ch F w w') (hH : H ≤ w.heap.size) (hF : ∀ b, b < H → ¬ F b) : BytesAt H w' a cap l :=
  ⟨h.1, h.2.1, fun hn => by
    obtain ⟨b, off, e, hb, hall⟩ := h.2.2 hn
    exact ⟨b, off, e, hb, fun i x hx => (hc.cell (by omega) (hF b hb)).trans (hall i x hx)⟩⟩
theorem BytesAt.mono {H G : Nat} {w : World} {a : Option Addr} {cap : Nat} {l : List Int} (h : BytesAt H w a cap l) (hG : H ≤ G) : BytesAt G w a cap l :=
  ⟨h.1, h.2.1, fun hn => by
    obtain ⟨b, off, e, hb, hall⟩ := h.2.2 hn
    exact ⟨b, off, e, by omega, hall⟩⟩
theorem BytesAt.take {H : Nat} {w : World} {b off cap : Nat} {l : List Int} (h : BytesAt H w (some ⟨b, off, none⟩) cap l) {m : Nat} (hm : m ≤ l.length) : BytesAt H w (some ⟨b, off, none⟩) m (l.take m) :=
  ⟨by rw [List.length_take]; omega, by have := h.1; have := h.2.1; omega, fun hn => by
    obtain ⟨b2, off2, e, hb, hall⟩ := h.2.2 (by rintro rfl; exact hn (by simp))
    exact ⟨b2, off2, e, hb, fun i x hx => hall i x (by
      rw [List.getElem?_take] at hx
      split at hx
      · exact hx
      · cases hx)⟩⟩
theorem BytesAt.drop {H : Nat} {w : World} {b off cap : Nat} {l : List Int} (h : BytesAt H w (some ⟨b, off, none⟩) cap l) (m : Nat) (hm : m ≤ l.length) : BytesAt H w (some ⟨b, off + m, none⟩) (cap - m) (l.drop m) :=
  ⟨by rw [List.length_drop]; have := h.1; omega, by have := h.2.1; omega, fun hn => by
    obtain ⟨b2, off2, e, hb, hall⟩ := h.2.2 (by rintro rfl; exact hn (by simp))
    obtain ⟨rfl, rfl⟩ : b = b2 ∧ off = off2 := by simpa using e
    refine ⟨b, off + m, rfl, hb, fun i x hx => ?_⟩
    rw [List.getElem?_drop] at hx
    rw [show off + m + i = off + (m + i) from by omega]
    exact hall _ x hx⟩
theorem BytesAt.nil {H : Nat} {w : World} {a : Option Addr} {cap : Nat} (hc : cap ≤ maxLen) : BytesAt H w a cap [] := ⟨Nat.zero_le _, hc, fun h => absurd rfl h⟩
/-- A reader: what is left to read, and the first fault. -/
structure RdAt (w : World) (rb H : Nat) (s : Rd) : Prop where
  ex : ∃ a cap, w.cell? ⟨rb, 0, none⟩ = some (.slice a s.l.length cap) ∧ BytesAt H w a cap s.l
  why : w.cell? ⟨rb, 1, none⟩ = some (.int .i64 s.why)
  f0 : w.frozen? ⟨rb, 0, none⟩ = false
  f1 : w.frozen? ⟨rb, 1, none⟩ = false
  lo : H ≤ rb
  lt : rb < w.heap.size
theorem RdAt.ch {w w' : World} {rb H : Nat} {s : Rd} (h : RdAt w rb H s) {F : Nat → Prop} (hc : Ch F w w') (h1 : ¬ F rb) (hF : ∀ b, b < H → ¬ F b) : RdAt w' rb H s := by
  obtain ⟨⟨a, cap, e1, e2⟩, e3, e4, e5, e6, e7⟩ := h
  exact ⟨⟨a, cap, (hc.cell e7 h1).trans e1, e2.ch hc (by omega) hF⟩, (hc.cell e7 h1).trans e3, (hc.frozen e7 h1).trans e4, (hc.frozen e7 h1).trans e5, e6, Nat.lt_of_lt_of_le e7 hc.size⟩
theorem RdAt.below {w w' : World} {rb H : Nat} {s : Rd} (h : RdAt w rb H s) (hb : Below w.heap.size w w') : RdAt w' rb H s :=
  h.ch (Ch.of_below (F := fun _ => False) hb) id (fun _ _ => id)
theorem Ch.set {rb : Nat} {w : World} (o : Nat) (u : Value) : Ch (· = rb) w (w.setCell ⟨rb, o, none⟩ u) := (Ch.refl (· = rb) w).setCell (p := ⟨rb, o, none⟩) (fun _ => rfl) u
theorem RdAt.setWhy {w : World} {rb H : Nat} {s : Rd} (h : RdAt w rb H s) (x : Int) : RdAt (w.setCell ⟨rb, 1, none⟩ (.int .i64 x)) rb H ⟨s.l, x⟩ := by
  obtain ⟨⟨a, cap, e1, e2⟩, e3, e4, e5, e6, e7⟩ := h
  refine ⟨⟨a, cap, ?_, e2.ch (Ch.set (rb := rb) 1 (.int .i64 x)) (by omega) (fun b hb => by show ¬ b = rb; omega)⟩, ?_, ?_, ?_, e6, by simpa using e7⟩
  all_goals go_simp
theorem RdAt.setB {w : World} {rb H : Nat} {s : Rd} (h : RdAt w rb H s) {a : Option Addr} {cap : Nat} {l : List Int} (hl : BytesAt H w a cap l) : RdAt (w.setCell ⟨rb, 0, none⟩ (.slice a l.length cap)) rb H ⟨l, s.why⟩ := by
  obtain ⟨⟨a0, cap0, e1, e2⟩, e3, e4, e5, e6, e7⟩ := h
  refine ⟨⟨a, cap, ?_, hl.ch (Ch.set (rb := rb) 0 (.slice a l.length cap)) (by omega) (fun b hb => by show ¬ b = rb; omega)⟩, ?_, ?_, ?_, e6, by simpa using e7⟩
  all_goals go_simp
/-- check: a fault is noted, if there is none yet. -/
def After (w : World) (rb H : Nat) (s : Rd) (v : Value) (e : Ending) (w' : World) : Prop := e = .returned v ∧ RdAt w' rb H s ∧ Ch (· = rb) w w'
set_option maxHeartbeats 1000000 in
theorem check_any (w : World) (rb H : Nat) (s : Rd) (h : RdAt w rb H s) (ok : Bool) : Calls Try.prog 59 #[.pointer (some ⟨rb, 0, none⟩), .bool ok] w (After w rb H (chk s ok) (.tuple #[])) := by
  have hw := h.why
  have hf := h.f1
  have hl := h.lt
  have HR := Lib.hid h
  clear h
  by_cases k : s.why = 0
  · cases ok
    · rw [k] at hw
      have HK : Hid (chk s false = ⟨s.l, 13⟩) := Lib.hid (chk_no k)
      clear k
      go_enter Try.func59, Try.ntmps59
      go_wp2
      go_end0
      exact ⟨rfl, by rw [HK.out]; exact HR.out.setWhy 13, Ch.set 1 _⟩
    · rw [k] at hw
      clear k
      rw [chk_ok]
      go_enter Try.func59, Try.ntmps59
      go_wp2
      go_end0
      exact ⟨rfl, HR.out, Ch.refl _ _⟩
  · have hb : (s.why == 0) = false := by simpa using k
    rw [chk_bad k]
    clear k
    go_enter Try.func59, Try.ntmps59
    go_wp2
    go_end0
    exact ⟨rfl, HR.out, Ch.refl _ _⟩
/-- next: so many bytes. -/
def Bytes (w : World) (rb H : Nat) (s : Rd) (l : List Int) (e : Ending) (w' : World) : Prop :=
  ∃ a, e = .returned (.slice a l.length l.length) ∧ BytesAt w'.heap.size w' a l.length l ∧ RdAt w' rb H s ∧ Ch (· = rb) w w'
theorem zeros_at {w : World} {m : Nat} {e : TypeId} (hm : m ≤ 8) : BytesAt (w.heap.size + 1) (w.alloc (.cells (madeCells #[Value.int .u8 0] m) e)) (some ⟨w.heap.size, 0, none⟩) m (List.replicate m 0) := by
  refine ⟨by simp, by unfold maxLen; omega, fun _ => ⟨_, 0, rfl, by omega, fun i x hx => ?_⟩⟩
  rw [List.getElem?_replicate] at hx
  split at hx
  · cases hx
    rw [World.cell?_alloc_new, ← Array.getElem?_toList, Nat.zero_add]
    have : (madeCells #[Value.int IntKind.u8 0] m).toList = List.replicate m (.int .u8 0) := toList_madeCells_one _ _
    rw [this, List.getElem?_replicate, if_pos (by assumption)]
  · cases hx
theorem Try.info5 : (Try.prog.info? 5).map (fun i => (i.zero, i.size, i.bytes)) = some (some (.int .u8 0), 1, 1) := by kernel_rfl
set_option maxHeartbeats 2000000 in
theorem next_any (w : World) (rb H m : Nat) (s : Rd) (h : RdAt w rb H s) (h1 : 1 ≤ m) (h8 : m ≤ 8) : Calls Try.prog 58 #[.pointer (some ⟨rb, 0, none⟩), .int .i64 m] w (Bytes w rb H (nxF m s).2 (nxF m s).1) := by
  have hw := h.why
  have hf := h.f1
  have hf0 := h.f0
  have hl := h.lt
  obtain ⟨a, cap, hb, hB⟩ := h.ex
  have HR := Lib.hid h
  have HB := Lib.hid hB
  have hcap := hB.1
  have hmax := hB.2.1
  unfold maxLen at hmax
  have hmk : ∀ W : World, (Instr.makeSlice 41 (.int .i64 m) (.int .i64 m)).run Try.prog W = .ok (.slice (some ⟨W.heap.size, 0, none⟩) m m) (W.alloc (.cells (madeCells (Value.int .u8 0).cells (m * 1)) 5)) := by
    intro W
    obtain ⟨i0, hi, hz0, hz1, hz2⟩ := info_parts Try.info5
    have := run_make (P := Try.prog) W 41 5 i0 (.int .u8 0) Try.underlying41 hi hz0 .i64 .i64 m m (by omega) (by omega) (by rw [hz2]; omega) (by omega)
    rw [hz1] at this
    simpa using this
  clear h hB
  by_cases k : s.why = 0
  · rw [k] at hw
    by_cases hs : s.l.length < m
    · have HN : Hid (nxF m s = (List.replicate m 0, ⟨s.l, 14⟩)) := Lib.hid (by unfold nxF; rw [if_pos k, if_pos hs])
      clear k
      rw [HN.out]
      generalize s.l.length = len at *
      go_enter Try.func58, Try.ntmps58
      go_wp2
      go_returns
      refine ⟨some ⟨w.heap.size, 0, none⟩, by rw [List.length_replicate]; rfl, ?_, ?_, ?_⟩
      · have hz := zeros_at (w := w.setCell ⟨rb, 1, none⟩ (.int .i64 14)) (e := 5) h8
        simpa using hz
      · exact (HR.out.setWhy 14).below (by rw [World.size_setCell]; exact (Below.refl _ _).alloc (by simp) _)
      · exact (Ch.set 1 _).alloc _
    · have HN : Hid (nxF m s = (s.l.take m, ⟨s.l.drop m, 0⟩)) := Lib.hid (by unfold nxF; rw [if_pos k, if_neg hs])
      have hne : s.l ≠ [] := by intro e; rw [e] at hs; simp at hs; omega
      obtain ⟨b, off, rfl, hbl, hall⟩ := HB.out.2.2 hne
      have HT := Lib.hid (HB.out.take (m := m) (by omega))
      have HD := Lib.hid (HB.out.drop m (by omega))
      have HL1 : Hid ((s.l.take m).length = m) := Lib.hid (by rw [List.length_take]; omega)
      have HL2 : Hid ((s.l.drop m).length = s.l.length - m) := Lib.hid (by rw [List.length_drop])
      have HWY : Hid (s.why = 0) := Lib.hid k
      clear k hall
      rw [HN.out]
      have hlen : m ≤ s.l.length := by omega
      clear hs hne
      generalize hg : s.l.length = len at *
      have HG := Lib.hid hg
      clear hg
      have c1 : (m : Int) ≤ len := by omega
      have c2 : (m : Int) ≤ cap := by omega
      by_cases hc : cap = m
      · subst hc
        go_enter Try.func58, Try.ntmps58
        go_wp2
        go_returns
        have hd : s.l.drop cap = [] := List.drop_eq_nil_of_le (by have := HG.out; omega)
        refine ⟨some ⟨b, off, none⟩, by rw [HL1.out]; rfl, ?_, ?_, Ch.set 0 _⟩
        · rw [HL1.out]
          exact (HT.out.ch (Ch.set (rb := rb) 0 _) (by have := HR.out.lo; omega) (fun b hb => by have := HR.out.lo; show ¬ b = rb; omega)).mono (by rw [World.size_setCell]; have := HR.out.lo; omega)
        · have := HR.out.setB (BytesAt.nil (H := H) (w := w) (a := some ⟨b, off, none⟩) (cap := 0) (Nat.zero_le _))
          rw [HWY.out] at this
          rw [hd]
          exact this
      · go_enter Try.func58, Try.ntmps58
        go_wp2
        go_returns
        refine ⟨some ⟨b, off, none⟩, by rw [HL1.out]; rfl, ?_, ?_, Ch.set 0 _⟩
        · rw [HL1.out]
          exact (HT.out.ch (Ch.set (rb := rb) 0 _) (by have := HR.out.lo; omega) (fun b hb => by have := HR.out.lo; show ¬ b = rb; omega)).mono (by rw [World.size_setCell]; have := HR.out.lo; omega)
        · have := HR.out.setB HD.out
          rw [HWY.out, HL2.out] at this
          exact this
  · have hn : (s.why == 0) = false := by simpa using k
    have HN : Hid (nxF m s = (List.replicate m 0, s)) := Lib.hid (by unfold nxF; rw [if_neg k])
    clear k
    rw [HN.out]
    generalize s.l.length = len at *
    go_enter Try.func58, Try.ntmps58
    go_wp2
    go_returns
    refine ⟨some ⟨w.heap.size, 0, none⟩, by rw [List.length_replicate]; rfl, by simpa using zeros_at (w := w) (e := 5) h8, HR.out.below ((Below.refl _ _).alloc (Nat.le_refl _) _), (Ch.refl _ _).alloc _⟩
end Go.Proofs.Ytpefmgmhclbcbaa.WireD
