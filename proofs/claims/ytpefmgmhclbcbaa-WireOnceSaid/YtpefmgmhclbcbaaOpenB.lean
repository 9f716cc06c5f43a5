/- A slice of elements of one cell each (floats, whole numbers) that came in, laid open: its cells. Conditions: the slice's type, its element's type. -/
import Derived.Test.YtpefmgmhclbcbaaOpen
import Derived.Laws.Cover2
namespace Go.Proofs.Ytpefmgmhclbcbaa.OpenB
open Go.ChangeShapes Go.WideShapes Go.Deep Go.RowKit Go.Proofs.Ytpefmgmhclbcbaa.Open
section
variable {H : Type} {enc : TypeId × Value → H} {P : Program} {w : World} {base : Nat} {spare : Nat → Bool} {held : Bool}
theorem open_ones {t e : TypeId} {a : Option Addr} {len cap : Nat} {d : DataW H} {ps : List MemPlace} {ts : List TypeId} {ds : List (DataW H)} {j : Nat}
    (hsz : (DataW.weightsEach P ts ds).all (· ≤ reachBytes) = true) (htj : ts[j]? = some t) (hdj : ds[j]? = some d) (ht : P.underlying t = some (.slice e))
    (hC : P.cellsOf e = 1) {B : Nat} (hB : P.bytesOf e = B) (h : DataW.Trod enc P w base spare held t (.slice a len cap) d ps) :
    len * B ≤ 140737488351232 ∧ len ≤ cap ∧ (0 < len → ∃ ad, a = some ad) ∧ ∃ V : Nat → Value, ∀ i, i < len → ∀ ad, a = some ad →
      w.cell? (ad.add i) = some (V i) ∧ ∃ n y, DataW.trod enc P w base spare held n e [V i] = some y := by
  obtain ⟨fuel, hf⟩ := h
  rcases open_slice ht hf with ⟨hcs, _⟩ | ⟨x, l, c, m, n, D, Pl, hcs, hb, hl, hm, hmm, hx, hi⟩
  · simp [Value.cells] at hcs
    obtain ⟨rfl, rfl, rfl⟩ := hcs
    exact ⟨by simp, Nat.le_refl _, fun h => by omega, fun _ => .bool false, fun i hi => by omega⟩
  · simp [Value.cells] at hcs
    obtain ⟨rfl, rfl, rfl⟩ := hcs
    have hlm : len ≤ m := by rw [hmm]; split <;> omega
    refine ⟨?_, hl, fun _ => ⟨_, rfl⟩, fun i => (w.cell? (x.add i)).getD (.bool false), ?_⟩
    · obtain ⟨hx, _⟩ := Prod.mk.inj hx
      subst hx
      have z := sized_slice hsz htj hdj ht
      rw [hB] at z
      simp only [List.length_map, List.length_range] at z
      have : reachBytes = 140737488351232 := rfl
      exact Nat.le_trans (Nat.mul_le_mul_right _ (by omega)) z
    · intro i hil ad had
      obtain rfl : x = ad := by simpa using had
      obtain ⟨cs', hc, ht'⟩ := hi i (by omega)
      rw [hC] at hc
      obtain ⟨_, hcl, hat⟩ := World.cells?_some hc
      have hcell := hat 0 (by omega)
      rw [Nat.mul_one] at hcell
      have hv : cs'[0]? = some (cs'[0]'(by omega)) := List.getElem?_eq_getElem (by omega)
      have hone : cs' = [cs'[0]'(by omega)] := by
        apply List.ext_getElem
        · simpa using hcl
        · intro k h1 h2
          obtain rfl : k = 0 := by simp at h2; omega
          rfl
      have hcc : w.cell? (x.add i) = some (cs'[0]'(by omega)) := by
        rw [← hv, ← hcell]
        rfl
      simp only [hcc, Option.getD_some]
      rw [← hone]
      exact ⟨trivial, _, _, ht'⟩
/-- A row of floats that came in. -/
def IsFloats (w : World) (a : Option Addr) (len : Nat) (z : Nat → Nat) : Prop :=
  (0 < len → ∃ ad, a = some ad) ∧ ∀ i, i < len → ∀ ad, a = some ad → w.cell? (ad.add i) = some (.float .f64 (z i)) ∧ z i < 18446744073709551616
def bitsOf : Value → Nat
  | .float _ b => b
  | _ => 0
theorem open_f64 {t : TypeId} {v : Nat} {d : DataW H} {ps : List MemPlace} (ht : P.underlying t = some (.float .f64)) (h : DataW.Trod enc P w base spare held t (.float .f64 v) d ps) : v < 18446744073709551616 := by
  obtain ⟨fuel, hf⟩ := h
  cases fuel with
  | zero => simp [DataW.trod] at hf
  | succ n =>
    simp only [DataW.trod, Value.cells, ht] at hf
    by_cases hw : (Lit.float .f64 v).wf = true
    · simpa [Lit.wf] using hw
    · simp [hw] at hf
theorem open_f64row {t e : TypeId} {a : Option Addr} {len cap : Nat} {d : DataW H} {ps : List MemPlace} {ts : List TypeId} {ds : List (DataW H)} {j : Nat}
    (hsz : (DataW.weightsEach P ts ds).all (· ≤ reachBytes) = true) (htj : ts[j]? = some t) (hdj : ds[j]? = some d) (ht : P.underlying t = some (.slice e)) (he : P.underlying e = some (.float .f64))
    (hC : P.cellsOf e = 1) (hB : P.bytesOf e = 8) (h : DataW.Trod enc P w base spare held t (.slice a len cap) d ps) :
    len * 8 ≤ 140737488351232 ∧ len ≤ cap ∧ ∃ z : Nat → Nat, IsFloats w a len z := by
  obtain ⟨h1, h2, h3, V, h4⟩ := open_ones hsz htj hdj ht hC hB h
  refine ⟨h1, h2, fun i => bitsOf (V i), h3, fun i hi ad had => ?_⟩
  obtain ⟨hc, n, y, hr⟩ := h4 i hi ad had
  have key : ∀ v : Value, DataW.trod enc P w base spare held n e [v] = some y → v = .float .f64 (bitsOf v) ∧ bitsOf v < 18446744073709551616 := by
    intro v hr
    cases n with
    | zero => simp [DataW.trod] at hr
    | succ n =>
      cases v with
      | float k b =>
        simp only [DataW.trod, he] at hr
        by_cases hk : FloatKind.f64 = k
        · subst hk
          by_cases hw : (Lit.float .f64 b).wf = true
          · exact ⟨rfl, by simpa [Lit.wf, bitsOf] using hw⟩
          · simp [hw] at hr
        · simp at hr
          exact absurd hr.1.1.symm hk
      | _ => simp [DataW.trod, he] at hr
  obtain ⟨e1, e2⟩ := key _ hr
  exact ⟨hc.trans (congrArg some e1), e2⟩
/-- A row of whole numbers that came in. -/
def IsInts (w : World) (a : Option Addr) (len : Nat) (k : IntKind) (z : Nat → Int) : Prop :=
  (0 < len → ∃ ad, a = some ad) ∧ ∀ i, i < len → ∀ ad, a = some ad → w.cell? (ad.add i) = some (.int k (z i)) ∧ (Lit.int k (z i)).wf = true
theorem open_introw {t e : TypeId} {k : IntKind} {a : Option Addr} {len cap : Nat} {d : DataW H} {ps : List MemPlace} {ts : List TypeId} {ds : List (DataW H)} {j : Nat}
    (hsz : (DataW.weightsEach P ts ds).all (· ≤ reachBytes) = true) (htj : ts[j]? = some t) (hdj : ds[j]? = some d) (ht : P.underlying t = some (.slice e)) (he : P.underlying e = some (.int k))
    (hC : P.cellsOf e = 1) {B : Nat} (hB : P.bytesOf e = B) (h : DataW.Trod enc P w base spare held t (.slice a len cap) d ps) :
    len * B ≤ 140737488351232 ∧ len ≤ cap ∧ ∃ z : Nat → Int, IsInts w a len k z := by
  obtain ⟨h1, h2, h3, V, h4⟩ := open_ones hsz htj hdj ht hC hB h
  refine ⟨h1, h2, fun i => numOf (V i), h3, fun i hi ad had => ?_⟩
  obtain ⟨hc, n, y, hr⟩ := h4 i hi ad had
  obtain ⟨m, hv, _, hw⟩ := DataW.trod_int he hr
  simp at hv
  have e1 : numOf (V i) = m := by rw [hv]; rfl
  show w.cell? (ad.add i) = some (.int k (numOf (V i))) ∧ (Lit.int k (numOf (V i))).wf = true
  rw [e1, hc, hv]
  exact ⟨rfl, hw⟩
theorem spot_none {W : World} {b off : Nat} {sp : Option Nat} {v : Value} (h : W.cell? ((⟨b, off, sp⟩ : Addr).add 0) = some v) : sp = none := by
  cases sp with
  | none => rfl
  | some q => simp [World.cell?, Addr.add] at h; split at h <;> simp at h
theorem add_plain (b off i : Nat) : (⟨b, off, none⟩ : Addr).add i = ⟨b, off + i, none⟩ := by
  unfold Addr.add
  split
  · subst_vars; rfl
  · rfl
theorem floats_at {W : World} {a : Option Addr} {len : Nat} {z : Nat → Nat} (h : IsFloats W a len z) (hp : 0 < len) : ∃ b off, a = some ⟨b, off, none⟩ ∧ b < W.heap.size ∧ ∀ i, i < len →
    W.cell? ⟨b, off + i, none⟩ = some (.float .f64 (z i)) ∧ z i < 18446744073709551616 := by
  obtain ⟨⟨b, off, sp⟩, rfl⟩ := h.1 hp
  have h0 := (h.2 0 hp _ rfl).1
  obtain rfl := spot_none h0
  refine ⟨b, off, rfl, ?_, fun i hi => ?_⟩
  · have := World.block_lt_of_cell? W _ h0
    simpa [Addr.add] using this
  · have := h.2 i hi _ rfl
    rwa [add_plain] at this
theorem ints_at {W : World} {a : Option Addr} {len : Nat} {k : IntKind} {z : Nat → Int} (h : IsInts W a len k z) (hp : 0 < len) : ∃ b off, a = some ⟨b, off, none⟩ ∧ b < W.heap.size ∧ ∀ i, i < len →
    W.cell? ⟨b, off + i, none⟩ = some (.int k (z i)) ∧ (Lit.int k (z i)).wf = true := by
  obtain ⟨⟨b, off, sp⟩, rfl⟩ := h.1 hp
  have h0 := (h.2 0 hp _ rfl).1
  obtain rfl := spot_none h0
  refine ⟨b, off, rfl, ?_, fun i hi => ?_⟩
  · have := World.block_lt_of_cell? W _ h0
    simpa [Addr.add] using this
  · have := h.2 i hi _ rfl
    rwa [add_plain] at this
end
end Go.Proofs.Ytpefmgmhclbcbaa.OpenB
