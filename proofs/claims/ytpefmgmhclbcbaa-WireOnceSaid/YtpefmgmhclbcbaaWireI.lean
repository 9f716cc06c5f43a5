/- Contracts of layer 26: all events as bytes, two lists of bytes alike. -/
import Derived.Test.YtpefmgmhclbcbaaWireH
namespace Go.Proofs.Ytpefmgmhclbcbaa.WireI
open Go.RowKit Go.Proofs.Ytpefmgmhclbcbaa.Frame Go.Proofs.Ytpefmgmhclbcbaa.WireA Go.Proofs.Ytpefmgmhclbcbaa.WireB Go.Proofs.Ytpefmgmhclbcbaa.WireC Go.Proofs.Ytpefmgmhclbcbaa.WireD Go.Proofs.Ytpefmgmhclbcbaa.WireE Go.Proofs.Ytpefmgmhclbcbaa.WireF Go.Proofs.Ytpefmgmhclbcbaa.WireG Go.Proofs.Ytpefmgmhclbcbaa.WireH
set_option linter.unusedVariables false
set_option linter.unusedSimpArgs false
theorem conv_bytes {H : Nat} {w : World} {a : Option Addr} {cap : Nat} {l : List Int} (h : BytesAt H w a cap l) : (convert 41 9 (.slice a l.length cap)).run Try.prog w = .ok (.string (strOfNums l)) w := by
  cases l with
  | nil =>
    cases a with
    | none => exact run_convert_bytes_nil w 41 5 Try.underlying41 Try.underlying5 0 cap 9 Try.underlying9
    | some ad =>
      have hl : (loadCells ad 0).run Try.prog w = .ok (([] : List Int).map (Value.int .u8)).toArray w := run_loadCells_list (P := Try.prog) w ad [] (fun j v hj => by simp at hj)
      show (convert 41 9 (.slice (some ad) 0 cap)).run Try.prog w = _
      rw [run_convert_bytes_string w 41 9 5 _ 0 cap Try.underlying41 Try.underlying5 Try.underlying9, run_bytesToString w _ 0 cap [] hl]
      rfl
  | cons x t =>
    obtain ⟨b, off, rfl, _, _⟩ := h.2.2 (by simp)
    exact bytes_str h
theorem bytes_same (w : World) {H : Nat} {a1 a2 : Option Addr} {c1 c2 : Nat} (l : List Int) (h1 : BytesAt H w a1 c1 l) (h2 : BytesAt H w a2 c2 l) :
    Calls Try.prog 31 #[.slice a1 l.length c1, .slice a2 l.length c2] w fun e w' => e = .returned (.bool true) ∧ w = w' := by
  have e1 := conv_bytes h1
  have e2 := conv_bytes h2
  clear h1 h2
  generalize strOfNums l = s at *
  generalize l.length = n at *
  go_enter Try.func31, Try.ntmps31
  go_wp2
  go_returns
  exact ⟨by simp, rfl⟩
structure EvI where
  k : Int
  cpu : Int
  id : Int
  mask : Int
  n : Int
def EvI.ok (e : EvI) : Prop := In64 e.cpu ∧ In64 e.id ∧ (0 ≤ e.mask ∧ e.mask ≤ 18446744073709551615) ∧ In64 e.n
def putE (e : EvI) : List Int := putL e.k (nsOf e.cpu e.id e.mask e.n)
def EvI.val (e : EvI) : Value := .agg #[.int .i64 e.k, .int .i64 e.cpu, .int .i64 e.id, .int .u64 e.mask, .int .i64 e.n]
def allL : List EvI → List Int
  | [] => []
  | e :: t => putE e ++ allL t
theorem allL_snoc (l : List EvI) (e : EvI) : allL (l ++ [e]) = allL l ++ putE e := by
  induction l with
  | nil => simp [allL]
  | cons a t ih => simp [allL, ih]
theorem allL_len (l : List EvI) : (allL l).length ≤ 38 * l.length := by
  induction l with
  | nil => simp [allL]
  | cons a t ih =>
    have := put_len a.k (nsOf a.cpu a.id a.mask a.n)
    simp only [allL, putE, List.length_append, List.length_cons]
    omega
theorem put_any (e : EvI) (h : e.ok) (w : World) : Calls Try.prog 23 #[.agg #[.int .i64 e.k, .int .i64 e.cpu, .int .i64 e.id, .int .u64 e.mask, .int .i64 e.n]] w (Put w (putE e)) := by
  by_cases hk : 1 ≤ e.k ∧ e.k ≤ 30
  · exact put_yes _ _ _ _ _ w hk.1 hk.2 (ns_in h.1 h.2.1 h.2.2.2)
  · have : putE e = [] := if_neg hk
    rw [this]
    exact put_no _ _ _ _ _ w (by omega)
theorem ownB_at {B : Nat} {w : World} {v : Value} {l : List Int} (h : OwnB B w v l) : ∃ a cap, v = .slice a l.length cap ∧ BytesAt w.heap.size w a cap l ∧ (a = none → cap = 0) := by
  obtain ⟨a, cap, rfl, hA⟩ := h.at
  refine ⟨a, cap, rfl, hA, ?_⟩
  rintro rfl
  rcases h with ⟨_, ⟨h1, _⟩ | ⟨g, c, cur, h1, _⟩⟩
  · simp at h1; exact h1.2
  · simp at h1
/-- A slice of events that reads as a list; its block lies below H. -/
def EvsAt (H : Nat) (w : World) (a : Option Addr) (cap : Nat) (es : List EvI) : Prop :=
  es.length ≤ cap ∧ (es ≠ [] → ∃ b off, a = some ⟨b, off, none⟩ ∧ b < H ∧ ∀ (i : Nat) (e : EvI), es[i]? = some e →
    w.cell? ⟨b, off + i * 5, none⟩ = some (.int .i64 e.k) ∧ w.cell? ⟨b, off + i * 5 + 1, none⟩ = some (.int .i64 e.cpu) ∧ w.cell? ⟨b, off + i * 5 + 2, none⟩ = some (.int .i64 e.id) ∧
    w.cell? ⟨b, off + i * 5 + 3, none⟩ = some (.int .u64 e.mask) ∧ w.cell? ⟨b, off + i * 5 + 4, none⟩ = some (.int .i64 e.n))
theorem EvsAt.below {H : Nat} {w w' : World} {a : Option Addr} {cap : Nat} {es : List EvI} (h : EvsAt H w a cap es) (hb : Below H w w') : EvsAt H w' a cap es :=
  ⟨h.1, fun hn => by
    obtain ⟨b, off, e, hb2, hall⟩ := h.2 hn
    refine ⟨b, off, e, hb2, fun i x hx => ?_⟩
    obtain ⟨c0, c1, c2, c3, c4⟩ := hall i x hx
    exact ⟨(hb.cell (p := ⟨b, _, none⟩) hb2).trans c0, (hb.cell (p := ⟨b, _, none⟩) hb2).trans c1, (hb.cell (p := ⟨b, _, none⟩) hb2).trans c2, (hb.cell (p := ⟨b, _, none⟩) hb2).trans c3, (hb.cell (p := ⟨b, _, none⟩) hb2).trans c4⟩⟩
set_option maxHeartbeats 2000000 in
theorem all_any (w : World) (a : Option Addr) (cap : Nat) (es : List EvI) (h : EvsAt w.heap.size w a cap es) (hok : ∀ e ∈ es, e.ok) (hlen : es.length ≤ 5000) :
    Calls Try.prog 33 #[.slice a es.length cap] w (Put w (allL es)) := by
  have HE := Lib.hid h
  have OK := Lib.hid hok
  clear h hok
  go_enter Try.func33, Try.ntmps33
  go_wp2_with fail
  go_loopw [3, 8] (fun v c wr => ∃ i : Nat, i ≤ es.length ∧ c = .int .i64 i ∧ OwnB w.heap.size wr v (allL (es.take i)) ∧ Below w.heap.size w wr) (fun _ c _ => es.length - (intOf c).toNat)
  case atStart => exact ⟨0, Nat.zero_le _, rfl, OwnB.nil _ _, Below.refl _ _⟩
  case round =>
    obtain ⟨i, hi, rfl, hO, hB⟩ := hrel
    have HO := Lib.hid hO
    have HB := Lib.hid hB
    have hz := hB.size
    clear hO hB
    by_cases hlt : i < es.length
    · obtain ⟨b, off, rfl, hb, hall⟩ := (HE.out.below HB.out).2 (by intro e; rw [e] at hlt; simp at hlt)
      have hx : es[i]? = some es[i] := List.getElem?_eq_getElem hlt
      obtain ⟨c0, c1, c2, c3, c4⟩ := hall i _ hx
      have OKE := Lib.hid (OK.out es[i] (List.getElem_mem hlt))
      have HT : Hid (allL (es.take (i + 1)) = allL (es.take i) ++ putE es[i]) := Lib.hid (by rw [List.take_succ_eq_append_getElem hlt, allL_snoc])
      have HLN : Hid ((allL (es.take i)).length ≤ 38 * 5000) := Lib.hid (by have := allL_len (es.take i); have h2 : (es.take i).length ≤ i := List.length_take_le _ _; omega)
      have hpl := put_len es[i].k (nsOf es[i].cpu es[i].id es[i].mask es[i].n)
      have HPL : Hid ((putE es[i]).length ≤ 38) := Lib.hid hpl
      clear hall hx hpl
      generalize es[i] = ev at *
      go_wp2_with fail
      refine (put_any ev OKE.out _).mono ?_
      rintro e w2 ⟨v2, rfl, hO2, hb2⟩
      obtain ⟨a2, cap2, rfl, hA2, hn2⟩ := ownB_at hO2
      have HB2 : Hid (Below wr.heap.size wr w2) := Lib.hid (((Below.refl _ _).alloc (Nat.le_refl _) _).trans (hb2.mono (by simp)))
      have HA2 := Lib.hid hA2
      have HN2 := Lib.hid hn2
      have hz2 := HB2.out.size
      clear hO2 hb2 hA2 hn2
      go_wp2_with (at_builtin; refine append_bytes rfl _ _ rfl w.heap.size _ (allL (es.take i)) rfl (HO.out.below HB2.out) _ _ (putE ev) rfl HA2.out HN2.out ?_ ?_ ?_)
      · have h1 := HLN.out; have h2 := HPL.out; omega
      · omega
      intro v3 w3 hO3 hg3
      have HO3 : Hid (OwnB w.heap.size w3 v3 (allL (es.take (i + 1)))) := Lib.hid (by rw [HT.out]; exact hO3)
      have HB3 := Lib.hid (below_grown (HB.out.trans (HB2.out.mono hz)) (HO.out.below HB2.out) hg3 (by omega))
      clear hO3 hg3
      go_wp2
      go_roundw
      case rel => exact ⟨i + 1, by omega, by go_num, HO3.out, HB3.out⟩
      case measure => simp [intOf]; omega
    · obtain rfl : i = es.length := by omega
      have HT : Hid (allL (es.take es.length) = allL es) := Lib.hid (by rw [List.take_length])
      clear HE
      go_wp2
      go_returns
      exact ⟨_, rfl, by rw [← HT.out]; exact HO.out, HB.out⟩
end Go.Proofs.Ytpefmgmhclbcbaa.WireI
