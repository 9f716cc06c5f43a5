/- Plain laws of events as bytes: how wide a number is, its bytes, and back. -/
import Derived.WalkKit
namespace Go.Proofs.Ytpefmgmhclbcbaa.WireA
set_option linter.unusedVariables false
def p8 : Nat → Int
  | 0 => 1
  | k + 1 => 256 * p8 k
def fits (n : Int) (k : Nat) : Bool := decide (-(p8 k) ≤ 2 * n ∧ 2 * n < p8 k)
def width (n : Int) : Nat := if fits n 1 then 1 else if fits n 2 then 2 else if fits n 3 then 3 else if fits n 4 then 4 else if fits n 5 then 5 else if fits n 6 then 6 else if fits n 7 then 7 else 8
def byteAt (n : Int) (j : Nat) : Int := n / p8 j % 256
def bytesOf (n : Int) : Nat → List Int
  | 0 => []
  | k + 1 => byteAt n k :: bytesOf n k
def In64 (n : Int) : Prop := -9223372036854775808 ≤ n ∧ n ≤ 9223372036854775807
def numL (n : Int) : List Int := if n = 0 then [] else (width n : Int) :: bytesOf n (width n)
def sx (b : Int) : Int := if 128 ≤ b then b - 256 else b
def decF (acc : Int) : List Int → Int
  | [] => acc
  | b :: t => decF (acc * 256 + b) t
def dec : List Int → Int
  | [] => 0
  | b :: t => decF (sx b) t
def IsB (l : List Int) : Prop := ∀ b ∈ l, 0 ≤ b ∧ b ≤ 255
theorem p8_pos (k : Nat) : 0 < p8 k := by induction k with | zero => decide | succ k ih => show 0 < 256 * p8 k; omega
theorem p8_1 : p8 1 = 256 := rfl
theorem p8_2 : p8 2 = 65536 := rfl
theorem p8_3 : p8 3 = 16777216 := rfl
theorem p8_4 : p8 4 = 4294967296 := rfl
theorem p8_5 : p8 5 = 1099511627776 := rfl
theorem p8_6 : p8 6 = 281474976710656 := rfl
theorem p8_7 : p8 7 = 72057594037927936 := rfl
theorem p8_8 : p8 8 = 18446744073709551616 := rfl
theorem fits_iff (n : Int) (k : Nat) : fits n k = true ↔ -(p8 k) ≤ 2 * n ∧ 2 * n < p8 k := by unfold fits; exact decide_eq_true_iff
theorem fits_no (n : Int) (k : Nat) : fits n k = false ↔ ¬ (-(p8 k) ≤ 2 * n ∧ 2 * n < p8 k) := by unfold fits; exact decide_eq_false_iff_not
theorem fits_8 {n : Int} (h : In64 n) : fits n 8 = true := by rw [fits_iff, p8_8]; unfold In64 at h; omega
theorem fits_mono {n : Int} {k : Nat} (h : fits n k = true) : fits n (k + 1) = true := by
  rw [fits_iff] at *
  have := p8_pos k
  show -(256 * p8 k) ≤ 2 * n ∧ 2 * n < 256 * p8 k
  omega
theorem width_cases (n : Int) : (width n = 1 ∧ fits n 1 = true) ∨ (width n = 2 ∧ fits n 1 = false ∧ fits n 2 = true) ∨ (width n = 3 ∧ fits n 2 = false ∧ fits n 3 = true) ∨ (width n = 4 ∧ fits n 3 = false ∧ fits n 4 = true) ∨
    (width n = 5 ∧ fits n 4 = false ∧ fits n 5 = true) ∨ (width n = 6 ∧ fits n 5 = false ∧ fits n 6 = true) ∨ (width n = 7 ∧ fits n 6 = false ∧ fits n 7 = true) ∨ (width n = 8 ∧ fits n 7 = false) := by
  unfold width
  cases h1 : fits n 1
  · cases h2 : fits n 2
    · cases h3 : fits n 3
      · cases h4 : fits n 4
        · cases h5 : fits n 5
          · cases h6 : fits n 6
            · cases h7 : fits n 7 <;> simp
            · simp
          · simp
        · simp
      · simp
    · simp
  · simp
theorem width_lo (n : Int) : 1 ≤ width n ∧ width n ≤ 8 := by
  rcases width_cases n with h | h | h | h | h | h | h | h <;> omega
theorem width_fits {n : Int} (h : In64 n) : fits n (width n) = true := by
  rcases width_cases n with ⟨e, h1⟩ | ⟨e, _, h1⟩ | ⟨e, _, h1⟩ | ⟨e, _, h1⟩ | ⟨e, _, h1⟩ | ⟨e, _, h1⟩ | ⟨e, _, h1⟩ | ⟨e, _⟩ <;> rw [e] <;> first | exact h1 | exact fits_8 h
theorem fits_le {n : Int} {j k : Nat} (hjk : j ≤ k) (h : fits n j = true) : fits n k = true := by
  induction k with
  | zero => obtain rfl : j = 0 := by omega
            exact h
  | succ k ih => rcases Nat.lt_or_ge j (k + 1) with a | a
                 · exact fits_mono (ih (by omega))
                 · obtain rfl : j = k + 1 := by omega
                   exact h
/-- The width is k just where k is the first that fits (8 fits always). -/
theorem width_least {n : Int} {j : Nat} (h1 : 1 ≤ j) (hj : j < width n) : fits n j = false := by
  cases h : fits n j with
  | false => rfl
  | true =>
    exfalso
    rcases width_cases n with ⟨e, _⟩ | ⟨e, f, _⟩ | ⟨e, f, _⟩ | ⟨e, f, _⟩ | ⟨e, f, _⟩ | ⟨e, f, _⟩ | ⟨e, f, _⟩ | ⟨e, f⟩
    · omega
    all_goals
      rw [fits_le (by omega) h] at f
      cases f
theorem width_is {n : Int} {k : Nat} (h1 : 1 ≤ k) (h8 : k ≤ 8) (hf : k < 8 → fits n k = true) (hn : ∀ j, 1 ≤ j → j < k → fits n j = false) : width n = k := by
  have hw := width_lo n
  rcases Nat.lt_trichotomy (width n) k with a | a | a
  · have := hn (width n) hw.1 a
    rcases width_cases n with ⟨e, h⟩ | ⟨e, _, h⟩ | ⟨e, _, h⟩ | ⟨e, _, h⟩ | ⟨e, _, h⟩ | ⟨e, _, h⟩ | ⟨e, _, h⟩ | ⟨e, h⟩
    all_goals first | (rw [e, h] at this; cases this) | omega
  · exact a
  · have h := hf (by omega)
    rw [width_least h1 a] at h
    cases h
theorem bytes_len (n : Int) (k : Nat) : (bytesOf n k).length = k := by induction k with | zero => rfl | succ k ih => simp [bytesOf, ih]
theorem bytes_isB (n : Int) (k : Nat) : IsB (bytesOf n k) := by
  induction k with
  | zero => intro b hb; cases hb
  | succ k ih =>
    intro b hb
    rcases List.mem_cons.1 hb with rfl | hb
    · unfold byteAt; omega
    · exact ih b hb
theorem div_step (n : Int) (k : Nat) : n / p8 k = n / p8 (k + 1) * 256 + byteAt n k := by
  unfold byteAt
  show _ = n / (256 * p8 k) * 256 + _
  rw [Int.mul_comm 256 (p8 k), ← Int.ediv_ediv_of_nonneg (by have := p8_pos k; omega)]
  omega
theorem decF_bytes (n : Int) (k : Nat) : decF (n / p8 k) (bytesOf n k) = n := by
  induction k with
  | zero => simp [bytesOf, decF, p8]
  | succ k ih => show decF (n / p8 (k + 1) * 256 + byteAt n k) (bytesOf n k) = n; rw [← div_step]; exact ih
theorem sx_top {n : Int} {k : Nat} (h : fits n (k + 1) = true) : sx (byteAt n k) = n / p8 k := by
  rw [fits_iff] at h
  have hp := p8_pos k
  have h2 : -(256 * p8 k) ≤ 2 * n ∧ 2 * n < 256 * p8 k := h
  have l1 : -128 ≤ n / p8 k := by rw [Int.le_ediv_iff_mul_le hp]; omega
  have l2 : n / p8 k < 128 := by rw [Int.ediv_lt_iff_lt_mul hp]; omega
  unfold sx byteAt
  generalize n / p8 k = q at *
  split <;> omega
theorem dec_bytes {n : Int} {k : Nat} (h : fits n (k + 1) = true) : dec (bytesOf n (k + 1)) = n := by
  show decF (sx (byteAt n k)) (bytesOf n k) = n
  rw [sx_top h]
  exact decF_bytes n k
/-- Back again: the bytes of what bytes say are these bytes. -/
theorem decF_spec (l : List Int) (hl : IsB l) : ∀ acc : Int, decF acc l / p8 l.length = acc ∧ bytesOf (decF acc l) l.length = l := by
  induction l with
  | nil => intro acc; exact ⟨by simp [decF, p8], rfl⟩
  | cons b t ih =>
    intro acc
    obtain ⟨e1, e2⟩ := ih (fun x hx => hl x (List.mem_cons_of_mem _ hx)) (acc * 256 + b)
    have hb := hl b List.mem_cons_self
    have hp := p8_pos t.length
    refine ⟨?_, ?_⟩
    · show decF (acc * 256 + b) t / (256 * p8 t.length) = acc
      rw [Int.mul_comm 256, ← Int.ediv_ediv_of_nonneg (by omega), e1]
      omega
    · show byteAt (decF (acc * 256 + b) t) t.length :: bytesOf (decF (acc * 256 + b) t) t.length = b :: t
      rw [e2]
      unfold byteAt
      rw [e1]
      congr 1
      omega
theorem bytes_dec (b : Int) (t : List Int) (h : IsB (b :: t)) : bytesOf (dec (b :: t)) (t.length + 1) = b :: t := by
  obtain ⟨e1, e2⟩ := decF_spec t (fun x hx => h x (List.mem_cons_of_mem _ hx)) (sx b)
  have hb := h b List.mem_cons_self
  show byteAt (decF (sx b) t) t.length :: bytesOf (decF (sx b) t) t.length = b :: t
  rw [e2]
  unfold byteAt
  rw [e1]
  congr 1
  unfold sx
  split <;> omega
theorem decF_bd (l : List Int) (hl : IsB l) : ∀ acc : Int, acc * p8 l.length ≤ decF acc l ∧ decF acc l < (acc + 1) * p8 l.length := by
  intro acc
  have e := (decF_spec l hl acc).1
  have hp := p8_pos l.length
  generalize decF acc l = d at *
  subst e
  exact ⟨Int.ediv_mul_le _ (by omega), by have := Int.lt_ediv_add_one_mul_self d hp; exact this⟩
theorem dec_fits (b : Int) (t : List Int) (h : IsB (b :: t)) : fits (dec (b :: t)) (t.length + 1) = true := by
  have hb := h b List.mem_cons_self
  obtain ⟨l1, l2⟩ := decF_bd t (fun x hx => h x (List.mem_cons_of_mem _ hx)) (sx b)
  have hs : -128 ≤ sx b ∧ sx b + 1 ≤ 128 := by unfold sx; split <;> omega
  rw [fits_iff]
  show -(256 * p8 t.length) ≤ 2 * decF (sx b) t ∧ 2 * decF (sx b) t < 256 * p8 t.length
  have hp := p8_pos t.length
  have m1 : -128 * p8 t.length ≤ sx b * p8 t.length := Int.mul_le_mul_of_nonneg_right hs.1 (by omega)
  have m2 : (sx b + 1) * p8 t.length ≤ 128 * p8 t.length := Int.mul_le_mul_of_nonneg_right hs.2 (by omega)
  omega
theorem dec_in64 (b : Int) (t : List Int) (h : IsB (b :: t)) (ht : t.length ≤ 7) : In64 (dec (b :: t)) := by
  have := fits_le (k := 8) (by omega) (dec_fits b t h)
  rw [fits_iff, p8_8] at this
  unfold In64
  omega
end Go.Proofs.Ytpefmgmhclbcbaa.WireA
