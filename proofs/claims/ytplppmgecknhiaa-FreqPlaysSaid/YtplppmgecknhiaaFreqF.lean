/- Plain laws of layer 24: the sum over the last four of a list is the sum over the ring of four places. -/
import Derived.Test.YtplppmgecknhiaaFreqA
namespace Go.Proofs.Ytplppmgecknhiaa.FreqF
open Go.RowKit Go.Proofs.Ytplppmgecknhiaa.NumD Go.Proofs.Ytplppmgecknhiaa.NumE Go.Proofs.Ytplppmgecknhiaa.FreqA
set_option linter.unusedVariables false
set_option linter.unusedSimpArgs false
def cellsOf (p : Int × Int) : List Value := [.int .i64 p.1, .int .i64 p.2]
def flat (l : List (Int × Int)) : List Value := l.flatMap cellsOf
theorem flat_len (l : List (Int × Int)) : (flat l).length = l.length * 2 := by
  induction l with
  | nil => rfl
  | cons c cs ih => simp only [flat, List.flatMap_cons, List.length_append, List.length_cons] at *; rw [ih]; simp [cellsOf]; omega
theorem flat_snoc (l : List (Int × Int)) (p : Int × Int) : flat (l ++ [p]) = flat l ++ cellsOf p := by
  rw [flat, List.flatMap_append]
  simp [flat]
theorem flat_get : ∀ (l : List (Int × Int)) (i : Nat), i < l.length → (flat l)[i * 2]? = some (.int .i64 (l.getD i (0, 0)).1) ∧ (flat l)[i * 2 + 1]? = some (.int .i64 (l.getD i (0, 0)).2) := by
  intro l
  induction l with
  | nil => intro i h; simp at h
  | cons d cs ih =>
    intro i h
    have e : flat (d :: cs) = .int .i64 d.1 :: .int .i64 d.2 :: flat cs := rfl
    rw [e]
    cases i with
    | zero => exact ⟨rfl, rfl⟩
    | succ i =>
      have := ih i (by simpa using h)
      rw [show (i + 1) * 2 = i * 2 + 1 + 1 from by omega]
      simpa using this
def ringS (s : FS × Nat) (p : Int × Int) : FS × Nat := (s.1.put s.2 p.1 p.2, (s.2 + 1) % 4)
def ring (l : List (Int × Int)) : FS × Nat := l.foldl ringS (FS.zero, 0)
theorem ring_snoc (l : List (Int × Int)) (p : Int × Int) : ring (l ++ [p]) = ((ring l).1.put (ring l).2 p.1 p.2, ((ring l).2 + 1) % 4) := by
  unfold ring
  rw [List.foldl_append]
  rfl
/-- What the first k of a list have to do with its last four. -/
def lastK (l : List (Int × Int)) (pr : Int × Int → Int) : Nat → Int
  | 0 => 0
  | k + 1 => lastK l pr k + (if l.length ≤ k + 4 then pr (l.getD k (0, 0)) else 0)
theorem lastK_zero (l : List (Int × Int)) (pr : Int × Int → Int) (k : Nat) (h : k + 4 ≤ l.length) : lastK l pr k = 0 := by
  induction k with
  | zero => rfl
  | succ k ih => rw [lastK, ih (by omega), if_neg (by omega)]; rfl
theorem lastK_long (m : List (Int × Int)) (x0 x1 x2 x3 : Int × Int) (pr : Int × Int → Int) : lastK (m ++ [x0, x1, x2, x3]) pr (m.length + 4) = pr x0 + pr x1 + pr x2 + pr x3 := by
  have hl : (m ++ [x0, x1, x2, x3]).length = m.length + 4 := by simp
  have z := lastK_zero (m ++ [x0, x1, x2, x3]) pr m.length (by omega)
  have g : ∀ j x, [x0, x1, x2, x3][j]? = some x → (m ++ [x0, x1, x2, x3]).getD (m.length + j) (0, 0) = x := by
    intro j x h
    rw [List.getD, List.getElem?_append_right (by omega), Nat.add_sub_cancel_left, h]
    rfl
  rw [show m.length + 4 = m.length + 3 + 1 from rfl, lastK, show m.length + 3 = m.length + 2 + 1 from rfl, lastK, show m.length + 2 = m.length + 1 + 1 from rfl, lastK, lastK, z, if_pos (by omega), if_pos (by omega), if_pos (by omega), if_pos (by omega)]
  have g0 := g 0 x0 rfl
  have g1 := g 1 x1 rfl
  have g2 := g 2 x2 rfl
  have g3 := g 3 x3 rfl
  simp only [Nat.add_zero] at g0
  rw [show m.length + 1 + 1 = m.length + 2 from rfl, show m.length + 1 + 1 + 1 = m.length + 3 from rfl, g0, g1, g2, g3]
  omega
theorem ringS_in (s : FS × Nat) (h : s.2 < 4) (p : Int × Int) : (ringS s p).2 < 4 := Nat.mod_lt _ (by omega)
theorem fold_in (l : List (Int × Int)) : ∀ (s : FS × Nat), s.2 < 4 → (l.foldl ringS s).2 < 4 := by
  induction l with
  | nil => intro s h; exact h
  | cons p l ih => intro s h; exact ih _ (ringS_in s h p)
theorem four (s : FS × Nat) (h : s.2 < 4) (x0 x1 x2 x3 : Int × Int) : ([x0, x1, x2, x3].foldl ringS s).1.busy = x0.1 + x1.1 + x2.1 + x3.1 ∧ ([x0, x1, x2, x3].foldl ringS s).1.all = x0.2 + x1.2 + x2.2 + x3.2 := by
  obtain ⟨f, i⟩ := s
  have hcase : i = 0 ∨ i = 1 ∨ i = 2 ∨ i = 3 := by simp at h; omega
  rcases hcase with rfl | rfl | rfl | rfl
  all_goals
    simp only [List.foldl_cons, List.foldl_nil, ringS, Nat.reduceAdd, Nat.reduceMod, Nat.zero_add, FS.put, FS.busy, FS.all]
    constructor <;> first | trivial | omega
theorem sums (l : List (Int × Int)) : lastK l Prod.fst l.length = (ring l).1.busy ∧ lastK l Prod.snd l.length = (ring l).1.all := by
  by_cases h : 4 ≤ l.length
  · obtain ⟨x0, x1, x2, x3, hd⟩ : ∃ x0 x1 x2 x3, l.drop (l.length - 4) = [x0, x1, x2, x3] := by
      have hlen : (l.drop (l.length - 4)).length = 4 := by rw [List.length_drop]; omega
      generalize l.drop (l.length - 4) = d at hlen
      match d, hlen with
      | [x0, x1, x2, x3], _ => exact ⟨x0, x1, x2, x3, rfl⟩
    have e : l = l.take (l.length - 4) ++ [x0, x1, x2, x3] := by rw [← hd, List.take_append_drop]
    generalize l.take (l.length - 4) = m at e
    subst e
    have hl : (m ++ [x0, x1, x2, x3]).length = m.length + 4 := by simp
    rw [hl, lastK_long, lastK_long]
    unfold ring
    rw [List.foldl_append]
    have := four (m.foldl ringS (FS.zero, 0)) (fold_in m _ (by simp)) x0 x1 x2 x3
    exact ⟨this.1.symm, this.2.symm⟩
  · match l, h with
    | [], _ => exact ⟨rfl, rfl⟩
    | [a], _ => constructor <;> simp [lastK, ring, ringS, FS.put, FS.zero, FS.busy, FS.all]
    | [a, b], _ => constructor <;> simp [lastK, ring, ringS, FS.put, FS.zero, FS.busy, FS.all]
    | [a, b, c], _ => constructor <;> simp [lastK, ring, ringS, FS.put, FS.zero, FS.busy, FS.all]
    | _ :: _ :: _ :: _ :: _, h => simp at h
def goods (l : List (Int × Int)) : Prop := ∀ p ∈ l, good p.1 p.2
theorem goods_at {l : List (Int × Int)} (h : goods l) {k : Nat} (hk : k < l.length) : good (l.getD k (0, 0)).1 (l.getD k (0, 0)).2 := by
  rw [List.getD, List.getElem?_eq_getElem hk]
  exact h _ (List.getElem_mem hk)
theorem lastK_in {l : List (Int × Int)} (h : goods l) (k : Nat) (hk : k ≤ l.length) : 0 ≤ lastK l Prod.fst k ∧ lastK l Prod.fst k ≤ k * 1099511627776 ∧ 0 ≤ lastK l Prod.snd k ∧ lastK l Prod.snd k ≤ k * 1099511627776 := by
  induction k with
  | zero => simp [lastK]
  | succ k ih =>
    have i := ih (by omega)
    obtain ⟨a1, a2, a3⟩ := goods_at h (show k < l.length by omega)
    rw [lastK, lastK]
    split <;> omega
theorem goods_snoc {l : List (Int × Int)} (h : goods l) {p : Int × Int} (hp : good p.1 p.2) : goods (l ++ [p]) := by
  intro q hq
  rw [List.mem_append] at hq
  rcases hq with hq | hq
  · exact h q hq
  · simp at hq; subst hq; exact hp
end Go.Proofs.Ytplppmgecknhiaa.FreqF
