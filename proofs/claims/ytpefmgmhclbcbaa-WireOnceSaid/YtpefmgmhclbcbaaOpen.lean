/- A slice of structs of one-cell fields that came in, laid open: its cells, field by field. Conditions: the slice's type, its struct's type, each field one cell. -/
import Derived.Deep.Slices
import Derived.Deep.Fields
import Derived.ChangeSame
import Derived.SizedLaws
import Derived.ChangeSlices
import Derived.RowKit
namespace Go.Proofs.Ytpefmgmhclbcbaa.Open
open Go.ChangeShapes Go.WideShapes Go.Deep Go.RowKit
section
variable {H : Type} {enc : TypeId × Value → H} {P : Program} {w : World} {base : Nat} {spare : Nat → Bool} {held : Bool}

theorem slice_structs {t e : TypeId} {fs : Array Field} {a : Option Addr} {len cap : Nat} {d : DataW H} {ps : List MemPlace} {ts : List TypeId} {ds : List (DataW H)} {j : Nat}
    (hsz : (DataW.weightsEach P ts ds).all (· ≤ reachBytes) = true) (htj : ts[j]? = some t) (hdj : ds[j]? = some d) (ht : P.underlying t = some (.slice e)) (he : P.underlying e = some (.struct fs))
    (hone : oneCellFields P fs = true) (hC : P.cellsOf e = fs.size) {B : Nat} (hB : P.bytesOf e = B) (h : DataW.Trod enc P w base spare held t (.slice a len cap) d ps) :
    len * B ≤ 140737488351232 ∧ len ≤ cap ∧ (0 < len → ∃ ad, a = some ad) ∧ ∃ V : Nat → Nat → Value, ∀ i, i < len → ∀ ad, a = some ad → ∀ (j : Nat) (f : Field), fs[j]? = some f →
      w.cell? (ad.add (i * fs.size + j)) = some (V i j) ∧ ∃ n y, DataW.trod enc P w base spare held n f.type [V i j] = some y := by
  obtain ⟨fuel, hf⟩ := h
  rcases open_slice ht hf with ⟨hcs, _⟩ | ⟨x, l, c, m, n, D, Pl, hcs, hb, hl, hm, hmm, hx, hi⟩
  · simp [Value.cells] at hcs
    obtain ⟨rfl, rfl, rfl⟩ := hcs
    exact ⟨by simp, Nat.le_refl _, fun h => by omega, fun _ _ => .bool false, fun i hi => by omega⟩
  · simp [Value.cells] at hcs
    obtain ⟨rfl, rfl, rfl⟩ := hcs
    have hlm : len ≤ m := by rw [hmm]; split <;> omega
    refine ⟨?_, hl, fun _ => ⟨_, rfl⟩, fun i j => (w.cell? (x.add (i * fs.size + j))).getD (.bool false), ?_⟩
    · obtain ⟨hx, _⟩ := Prod.mk.inj hx
      subst hx
      have z := sized_slice hsz htj hdj ht
      rw [hB] at z
      simp only [List.length_map, List.length_range] at z
      have : reachBytes = 140737488351232 := rfl
      exact Nat.le_trans (Nat.mul_le_mul_right _ (by omega)) z
    · intro i hil ad had j f hj
      obtain rfl : x = ad := by simpa using had
      obtain ⟨cs', hc, ht'⟩ := hi i (by omega)
      rw [hC] at hc
      obtain ⟨ys, n', hn', hy, hlen, hyl, hf⟩ := DataW.trod_struct he ht'
      obtain ⟨_, hcl, hat⟩ := World.cells?_some hc
      obtain ⟨ho, hk⟩ := hone_of hone j f hj
      have hjl : j < fs.size := (Array.getElem?_eq_some_iff.1 hj).1
      have hcell := hat j hjl
      have hv : cs'[j]? = some (cs'[j]'(by omega)) := List.getElem?_eq_getElem (by omega)
      have h1 := hf j f hj
      rw [ho, hk] at h1
      have hone' : (cs'.drop j).take 1 = [cs'[j]'(by omega)] := by
        rw [List.drop_eq_getElem_cons (by omega)]
        rfl
      rw [hone'] at h1
      have hys : ys[j]? = some (ys[j]'(by omega)) := List.getElem?_eq_getElem (by omega)
      have hcc : w.cell? (x.add (i * fs.size + j)) = some (cs'[j]'(by omega)) := by rw [← Go.Deep.add_add, hcell, hv]
      simp only [hcc, Option.getD_some]
      exact ⟨trivial, _, _, h1.trans hys⟩

def numOf : Value → Int
  | .int _ n => n
  | _ => 0
def boolOf : Value → Bool
  | .bool b => b
  | _ => false
/-- The kind of a field of one cell: a whole number or a bool. -/
inductive FK where
  | int (k : IntKind)
  | bool
def FK.val : FK → Value → Value
  | .int k, v => .int k (numOf v)
  | .bool, v => .bool (boolOf v)
def FK.ok : FK → Value → Prop
  | .int k, v => (Lit.int k (numOf v)).wf = true
  | .bool, _ => True
def FK.under (P : Program) : FK → TypeId → Prop
  | .int k, t => P.underlying t = some (.int k)
  | .bool, t => P.underlying t = some .bool
theorem FK.reads {k : FK} {t : TypeId} {v : Value} (ht : k.under P t) (h : ∃ n y, DataW.trod enc P w base spare held n t [v] = some y) : v = k.val v ∧ k.ok v := by
  obtain ⟨n, y, h⟩ := h
  cases k with
  | int k =>
    obtain ⟨m, hv, _, hw⟩ := DataW.trod_int ht h
    simp at hv
    subst hv
    exact ⟨rfl, hw⟩
  | bool =>
    obtain ⟨m, hv, _⟩ := DataW.trod_bool ht h
    simp at hv
    subst hv
    exact ⟨rfl, trivial⟩
/-- The fields of a struct are of these kinds, in order. -/
def FKs (P : Program) (fs : Array Field) (ks : List FK) : Prop := ks.length = fs.size ∧ ∀ (j : Nat) (k : FK), ks[j]? = some k → ∃ f, fs[j]? = some f ∧ k.under P f.type
/-- The cells of a row of structs: field j of struct i holds V i j. -/
def StructRow (w : World) (a : Option Addr) (len : Nat) (ks : List FK) (V : Nat → Nat → Value) : Prop :=
  (0 < len → ∃ ad, a = some ad) ∧ ∀ i, i < len → ∀ ad, a = some ad → ∀ (j : Nat) (k : FK), ks[j]? = some k → w.cell? (ad.add (i * ks.length + j)) = some (k.val (V i j)) ∧ k.ok (V i j)
theorem open_rows {t e : TypeId} {fs : Array Field} {ks : List FK} (hk : FKs P fs ks) {a : Option Addr} {len cap : Nat} {d : DataW H} {ps : List MemPlace} {ts : List TypeId} {ds : List (DataW H)} {j : Nat}
    (hsz : (DataW.weightsEach P ts ds).all (· ≤ reachBytes) = true) (htj : ts[j]? = some t) (hdj : ds[j]? = some d) (ht : P.underlying t = some (.slice e)) (he : P.underlying e = some (.struct fs))
    (hone : oneCellFields P fs = true) (hC : P.cellsOf e = fs.size) {B : Nat} (hB : P.bytesOf e = B) (h : DataW.Trod enc P w base spare held t (.slice a len cap) d ps) :
    len * B ≤ 140737488351232 ∧ len ≤ cap ∧ ∃ V : Nat → Nat → Value, StructRow w a len ks V := by
  obtain ⟨h1, h2, h3, V, h4⟩ := slice_structs hsz htj hdj ht he hone hC hB h
  refine ⟨h1, h2, V, h3, fun i hi ad had j k hj => ?_⟩
  obtain ⟨f, hf, hu⟩ := hk.2 j k hj
  obtain ⟨hc, hr⟩ := h4 i hi ad had j f hf
  obtain ⟨hv, ho⟩ := FK.reads hu hr
  rw [hk.1, ← hv]
  exact ⟨hc, ho⟩
/-- A struct of one-cell fields by value. -/
theorem open_agg {r : Reach} {b0 : Nat} {t : TypeId} {fs : Array Field} {ks : List FK} (hk : FKs P fs ks) {v : Value} {d : DataW H} {p : List MemPlace} (hs : P.underlying t = some (.struct fs))
    (hone : oneCellFields P fs = true) (hC : P.cellsOf t = fs.size) (hv : Value.okWide P w r b0 t v) (h : DataW.Trod enc P w base spare held t v d p) :
    ∃ V : Nat → Value, v = .agg ((List.range ks.length).map (fun j => ((ks[j]?).getD .bool).val (V j))).toArray ∧ ∀ (j : Nat) (k : FK), ks[j]? = some k → k.ok (V j) := by
  obtain ⟨cs, rfl, hsz⟩ := okWide_struct hs hv
  obtain ⟨fuel, hf⟩ := h
  obtain ⟨xs, n, _, hx, hl, hlen, hg⟩ := DataW.trod_struct hs hf
  have hcl : cs.toList.length = fs.size := by rw [Array.length_toList, hsz, hC]
  have key : ∀ (j : Nat) (k : FK), ks[j]? = some k → (hj : j < cs.size) → cs[j] = k.val cs[j] ∧ k.ok cs[j] := by
    intro j k hj hjs
    obtain ⟨f, hf, hu⟩ := hk.2 j k hj
    obtain ⟨ho, hc⟩ := hone_of hone j f hf
    have h1 := hg j f hf
    rw [ho, hc] at h1
    have hone' : (cs.toList.drop j).take 1 = [cs[j]] := by
      rw [List.drop_eq_getElem_cons (by simpa using hjs)]
      simp
    have e2 : ((Value.agg cs).cells.toList.drop j).take 1 = [cs[j]] := hone'
    rw [e2] at h1
    have hys : xs[j]? = some (xs[j]'(by have := (Array.getElem?_eq_some_iff.1 hf).1; omega)) := List.getElem?_eq_getElem _
    exact FK.reads hu ⟨_, _, h1.trans hys⟩
  have hks : ks.length = cs.size := by rw [hk.1, ← hcl, Array.length_toList]
  refine ⟨fun j => (cs[j]?).getD (.bool false), ?_, ?_⟩
  · congr 1
    apply Array.ext
    · simp [hks]
    · intro i h1 h2
      have hi : i < ks.length := by omega
      have e : ks[i]? = some ks[i] := List.getElem?_eq_getElem hi
      obtain ⟨hv, _⟩ := key i ks[i] e h1
      simp [e, Array.getElem?_eq_getElem h1]
      exact hv
  · intro j k hj
    have hjl : j < ks.length := (List.getElem?_eq_some_iff.1 hj).1
    have hjc : j < cs.size := by omega
    obtain ⟨_, ho⟩ := key j k hj hjc
    simpa [Array.getElem?_eq_getElem hjc] using ho
end
end Go.Proofs.Ytpefmgmhclbcbaa.Open
