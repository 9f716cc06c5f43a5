/- Plain laws of the order of floats: it is one order, and the best of some does not hang on how they are handed on. -/
import Derived.Test.YtplppmgecknhiaaMeterM
namespace Go.Proofs.Ytplppmgecknhiaa.MeterO
open Go.Proofs.Ytplppmgecknhiaa.MeterA Go.Proofs.Ytplppmgecknhiaa.MeterB Go.Proofs.Ytplppmgecknhiaa.MeterM Go.Proofs.Ytplppmgecknhiaa.OpenB
set_option linter.unusedVariables false
theorem orderF_ways (a b : Nat) : (orderF a b = -1 ∧ key a < key b) ∨ (orderF a b = 0 ∧ key a = key b) ∨ (orderF a b = 1 ∧ key b < key a) := by
  unfold orderF
  rcases Nat.lt_trichotomy (key a) (key b) with h | h | h
  · exact .inl ⟨orderK_lt h, h⟩
  · exact .inr (.inl ⟨orderK_eq h, h⟩)
  · exact .inr (.inr ⟨orderK_gt h, h⟩)
theorem orderF_self (a : Nat) : orderF a a = 0 := orderK_eq rfl
theorem orderF_neg (a b : Nat) : orderF b a = -orderF a b := by
  rcases orderF_ways a b with ⟨h, k⟩ | ⟨h, k⟩ | ⟨h, k⟩ <;> rcases orderF_ways b a with ⟨g, l⟩ | ⟨g, l⟩ | ⟨g, l⟩ <;> omega
/-- What the order of three floats comes to. -/
theorem line (a b c : Nat) : ∃ x y z : Int, orderF a b = x ∧ orderF b c = y ∧ orderF b a = -x ∧ orderF a c = z ∧
    ((x = 1 ∧ (y = -1 ∨ y = 0 ∨ y = 1)) ∨ ((x = -1 ∨ x = 0) ∧ y = 1) ∨ (x = -1 ∧ y = -1 ∧ z = -1) ∨ (x = -1 ∧ y = 0 ∧ z = -1) ∨ (x = 0 ∧ y = -1 ∧ z = -1) ∨ (x = 0 ∧ y = 0 ∧ z = 0)) := by
  refine ⟨_, _, _, rfl, rfl, orderF_neg a b, rfl, ?_⟩
  rcases orderF_ways a b with ⟨h, k⟩ | ⟨h, k⟩ | ⟨h, k⟩ <;> rcases orderF_ways b c with ⟨g, l⟩ | ⟨g, l⟩ | ⟨g, l⟩ <;> rcases orderF_ways a c with ⟨m, n⟩ | ⟨m, n⟩ | ⟨m, n⟩ <;> omega
def Best (R : Nat → Nat → Prop) (z : Nat → Nat) (n r : Nat) : Prop :=
  (r = qnan ∧ ∀ i, i < n → nan (z i) = true) ∨ (nan r = false ∧ (∃ i, i < n ∧ r = z i) ∧ ∀ j, j < n → nan (z j) = false → R (key (z j)) (key r))
theorem qnan_nan : nan qnan = true := by decide
theorem best_of (R : Nat → Nat → Prop) (want : Int) (hr : ∀ x, R x x) (ht : ∀ x y z, R x y → R y z → R x z)
    (hyes : ∀ f o, orderF f o = want → R (key o) (key f)) (hno : ∀ f o, orderF f o ≠ want → R (key f) (key o)) (z : Nat → Nat) (n : Nat) : Best R z n (bestN z want n) := by
  induction n with
  | zero => exact .inl ⟨rfl, fun i h => absurd h (by omega)⟩
  | succ n ih =>
    unfold bestN
    have ow : ∀ i, i < n + 1 → i < n ∨ i = n := fun i h => by omega
    rcases nxt_ways (z n) (bestN z want n) want with ⟨n1, e⟩ | ⟨n1, n2, e⟩ | ⟨n1, n2, n3, e⟩ | ⟨n1, n2, n3, e⟩
    · rw [e]
      rcases ih with ⟨h1, h2⟩ | ⟨h1, ⟨i, h2, h3⟩, h4⟩
      · exact .inl ⟨h1, fun i hi => (ow i hi).elim (h2 i) fun e => e ▸ n1⟩
      · refine .inr ⟨h1, ⟨i, by omega, h3⟩, fun j hj nj => (ow j hj).elim (fun k => h4 j k nj) fun e => ?_⟩
        rw [e, n1] at nj
        cases nj
    · rw [e]
      refine .inr ⟨n1, ⟨n, by omega, rfl⟩, fun j hj nj => ?_⟩
      rcases ow j hj with k | rfl
      · rcases ih with ⟨h1, h2⟩ | ⟨h1, _, _⟩
        · rw [h2 j k] at nj; cases nj
        · rw [n2] at h1; cases h1
      · exact hr _
    · rw [e]
      rcases ih with ⟨h1, h2⟩ | ⟨h1, _, h4⟩
      · rw [h1, qnan_nan] at n2; cases n2
      · refine .inr ⟨n1, ⟨n, by omega, rfl⟩, fun j hj nj => ?_⟩
        rcases ow j hj with k | rfl
        · exact ht _ _ _ (h4 j k nj) (hyes _ _ (by simpa using n3))
        · exact hr _
    · rw [e]
      rcases ih with ⟨h1, h2⟩ | ⟨h1, ⟨i, h2, h3⟩, h4⟩
      · rw [h1, qnan_nan] at n2; cases n2
      · refine .inr ⟨h1, ⟨i, by omega, h3⟩, fun j hj nj => ?_⟩
        rcases ow j hj with k | rfl
        · exact h4 j k nj
        · exact hno _ _ (by simpa using n3)
theorem best_alike (R : Nat → Nat → Prop) (ha : ∀ x y, R x y → R y x → x = y) {z y : Nat → Nat} {n r s : Nat} (h1 : Best R z n r) (h2 : Best R y n s) (e : ∀ i, i < n → y i = z (n - 1 - i)) : key r = key s := by
  have back : ∀ i, i < n → z i = y (n - 1 - i) := fun i hi => by
    rw [e _ (by omega)]
    congr 1
    omega
  rcases h1 with ⟨a1, a2⟩ | ⟨a1, ⟨i, a2, a3⟩, a4⟩
  · rcases h2 with ⟨b1, b2⟩ | ⟨b1, ⟨j, b2, b3⟩, b4⟩
    · rw [a1, b1]
    · rw [b3, e j b2, a2 _ (by omega)] at b1
      cases b1
  · rcases h2 with ⟨b1, b2⟩ | ⟨b1, ⟨j, b2, b3⟩, b4⟩
    · rw [a3, back i a2, b2 _ (by omega)] at a1
      cases a1
    · apply ha
      · have := b4 (n - 1 - i) (by omega)
        rw [← back i a2, ← a3] at this
        exact this a1
      · have := a4 (n - 1 - j) (by omega)
        rw [← e j b2, ← b3] at this
        exact this b1
theorem most_alike {z y : Nat → Nat} {n : Nat} (e : ∀ i, i < n → y i = z (n - 1 - i)) : orderF (bestN z 1 n) (bestN y 1 n) = 0 := by
  have hb : ∀ z, Best (· ≤ ·) z n (bestN z 1 n) := fun z => best_of (· ≤ ·) 1 (fun _ => Nat.le_refl _) (fun _ _ _ => Nat.le_trans)
    (fun f o h => by rcases orderF_ways f o with ⟨g, k⟩ | ⟨g, k⟩ | ⟨g, k⟩ <;> omega) (fun f o h => by rcases orderF_ways f o with ⟨g, k⟩ | ⟨g, k⟩ | ⟨g, k⟩ <;> omega) z n
  exact orderK_eq (best_alike (· ≤ ·) (fun _ _ => Nat.le_antisymm) (hb z) (hb y) e)
theorem least_alike {z y : Nat → Nat} {n : Nat} (e : ∀ i, i < n → y i = z (n - 1 - i)) : orderF (bestN z (-1) n) (bestN y (-1) n) = 0 := by
  have hb : ∀ z, Best (fun a b => b ≤ a) z n (bestN z (-1) n) := fun z => best_of (fun a b => b ≤ a) (-1) (fun _ => Nat.le_refl _) (fun _ _ _ h1 h2 => Nat.le_trans h2 h1)
    (fun f o h => by rcases orderF_ways f o with ⟨g, k⟩ | ⟨g, k⟩ | ⟨g, k⟩ <;> omega) (fun f o h => by rcases orderF_ways f o with ⟨g, k⟩ | ⟨g, k⟩ | ⟨g, k⟩ <;> omega) z n
  exact orderK_eq (best_alike (fun a b => b ≤ a) (fun _ _ h1 h2 => Nat.le_antisymm h2 h1) (hb z) (hb y) e)
/-- The floats handed on the other way round, the first m of them. -/
def backs (z : Nat → Nat) (n m : Nat) : List Value := (List.range m).map fun j => .float .f64 (z (n - 1 - j))
theorem backs_succ (z : Nat → Nat) (n m : Nat) : backs z n (m + 1) = backs z n m ++ [.float .f64 (z (n - 1 - m))] := by
  unfold backs
  rw [List.range_succ, List.map_append]
  rfl
theorem floats_of_own {w : World} {base n : Nat} {v : Value} {z : Nat → Nat} (h : w.ownsRow base 42 1 v n (backs z n n)) (hz : ∀ i, i < n → z i < 18446744073709551616) :
    ∃ a cap, v = .slice a n cap ∧ IsFloats w a n (fun i => z (n - 1 - i)) := by
  have hl : (backs z n n).length = n := by simp [backs]
  rcases h with ⟨h0, ⟨rfl, rfl⟩ | ⟨g, cap, cur, rfl, hb, hc, hcap, hm, hs, ht⟩⟩
  · exact ⟨none, 0, rfl, fun h => by omega, fun i hi => by omega⟩
  · refine ⟨_, cap, rfl, fun _ => ⟨_, rfl⟩, fun i hi ad had => ?_⟩
    obtain rfl : ad = ⟨g, 0, none⟩ := by simpa using had.symm
    have h1 := World.ownsRow.cellAt ⟨h0, .inr ⟨g, cap, cur, rfl, hb, hc, hcap, hm, hs, ht⟩⟩ i (by omega)
    rw [add_plain, Nat.zero_add, h1]
    refine ⟨?_, hz _ (by omega)⟩
    simp [backs, hi]
end Go.Proofs.Ytplppmgecknhiaa.MeterO
