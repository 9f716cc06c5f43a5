/- Contracts of num.Clamp and of the document's Clamp, Percent and Log. -/
import Derived.Test.YtplppmgecknhiaaNumE
namespace Go.Proofs.Ytplppmgecknhiaa.NumF
open Go.RowKit Go.Proofs.Ytplppmgecknhiaa.NumD Go.Proofs.Ytplppmgecknhiaa.NumE Go.Proofs.Ytplppmgecknhiaa.NumC
set_option linter.unusedVariables false
theorem max2_int (k k' : IntKind) (x y : Int) : Builtin.max2 (.int k x) (.int k' y) = pure (.int k (if x < y then y else x)) := by simp only [Builtin.max2, gt_iff_lt]
theorem min2_int (k k' : IntKind) (x y : Int) : Builtin.min2 (.int k x) (.int k' y) = pure (.int k (if y < x then y else x)) := by simp only [Builtin.min2]
theorem max_two (ats : Array TypeId) (ty : TypeId) (a b : Value) : Builtin.max_ ats ty #[a, b] = (Builtin.max2 a b >>= fun s => pure s) := by simp only [Builtin.max_, List.foldlM_cons, List.foldlM_nil]
theorem min_two (ats : Array TypeId) (ty : TypeId) (a b : Value) : Builtin.min_ ats ty #[a, b] = (Builtin.min2 a b >>= fun s => pure s) := by simp only [Builtin.min_, List.foldlM_cons, List.foldlM_nil]
attribute [local go_sem] max2_int max_two min2_int min_two
def clampF (n low high : Int) : Int := if high < low ∨ n < low then low else if high < n then high else n
theorem clamp_cases (n low high : Int) : (high < low ∧ high < n ∧ clampF n low high = low) ∨ (high < low ∧ n ≤ high ∧ n < low ∧ clampF n low high = low) ∨ (low ≤ high ∧ n < low ∧ n ≤ high ∧ clampF n low high = low) ∨ (low ≤ high ∧ low ≤ n ∧ high < n ∧ clampF n low high = high) ∨ (low ≤ high ∧ low ≤ n ∧ n ≤ high ∧ clampF n low high = n) := by
  unfold clampF
  by_cases h1 : high < low
  · rw [if_pos (.inl h1)]
    omega
  · by_cases h2 : n < low
    · rw [if_pos (.inr h2)]
      omega
    · rw [if_neg (by omega)]
      by_cases h3 : high < n
      · rw [if_pos h3]
        omega
      · rw [if_neg h3]
        omega
theorem clamp_any (n low high : Int) (w : World) : Calls Try.prog 19 #[.int .i64 n, .int .i64 low, .int .i64 high] w fun e w' => e = .returned (.int .i64 (clampF n low high)) ∧ w = w' := by
  rcases clamp_cases n low high with ⟨a, b, e⟩ | ⟨a, b, c, e⟩ | ⟨a, b, c, e⟩ | ⟨a, b, c, e⟩ | ⟨a, b, c, e⟩
  all_goals
    have E := Lib.hid e
    clear e
    go_enter Try.func19, Try.ntmps19
    go_wp2
    all_goals
      go_returns
      rw [E.out]
      first
        | exact ⟨rfl, rfl⟩
        | (exfalso; omega)
        | exact ⟨by simp <;> omega, rfl⟩
theorem rclamp_any (n low high : Int) (w : World) : Calls Try.prog 20 #[.int .i64 n, .int .i64 low, .int .i64 high] w fun e w' => e = .returned (.int .i64 (clampF n low high)) ∧ w = w' := by
  rcases clamp_cases n low high with ⟨a, b, e⟩ | ⟨a, b, c, e⟩ | ⟨a, b, c, e⟩ | ⟨a, b, c, e⟩ | ⟨a, b, c, e⟩
  all_goals
    have E := Lib.hid e
    clear e
    go_enter Try.func20, Try.ntmps20
    go_wp2
    all_goals
      go_returns
      rw [E.out]
      exact ⟨rfl, rfl⟩
theorem ret_u {a b : Int} (h : a = b) : Ending.returned (.int .u64 a) = .returned (.int .u64 b) := by rw [h]
theorem ret_i {a b : Int} (h : a = b) : Ending.returned (.int .i64 a) = .returned (.int .i64 b) := by rw [h]
set_option maxHeartbeats 1000000 in
theorem part_any (n y : Nat) (h1 : n < y) (h2 : y < 9223372036854775808) (w : World) : Calls Try.prog 62 #[.int .u64 n, .int .u64 100, .int .u64 y] w fun e w' => e = .returned (.int .u64 ((n * 100 / y : Nat) : Int)) ∧ w = w' := by
  obtain ⟨t, ht⟩ : ∃ t, y - n = t := ⟨_, rfl⟩
  have p1 : IntKind.u64.wrap ((y : Int) - (n : Int)) = (t : Int) := by rw [IntKind.wrap_u64]; omega
  have HT := Lib.hid ht
  have H1 := Lib.hid h1
  have H2 := Lib.hid h2
  clear h1 h2 ht
  go_enter Try.func62, Try.ntmps62
  go_wp2_with fail
  go_loopg [7, 8, 9] 100 (fun g a b c wr => ∃ q r i : Nat, a = .int .u64 q ∧ b = .int .u64 r ∧ c = .int .u64 i ∧ Hid (g + i = 100) ∧ Hid (q * y + r = n * i) ∧ Hid (r < y) ∧ Hid (q ≤ i) ∧ wr = w)
  case atStart => exact ⟨0, 0, 0, rfl, rfl, rfl, Lib.hid rfl, Lib.hid (by simp), Lib.hid (by have := H1.out; omega), Lib.hid (Nat.le_refl _), rfl⟩
  case round =>
    obtain ⟨q, r, i, rfl, rfl, rfl, hg, he, hr, hq, rfl⟩ := hrel
    have g2 : (i : Int) ≤ 100 := by have := hg.out; omega
    have g3 : (q : Int) ≤ 100 := by have := hq.out; omega
    by_cases hi : i < 100
    · have g4 : (i : Int) < 100 := by omega
      by_cases hb : y - n ≤ r
      · have g5 : (t : Int) ≤ (r : Int) := by have := H1.out; have := HT.out; omega
        have p2 : IntKind.u64.wrap ((r : Int) - (t : Int)) = ((r - t : Nat) : Int) := by rw [IntKind.wrap_u64]; have := hr.out; have := H2.out; omega
        clear hi hb
        go_wp2_with fail
        go_roundg (gk - 1)
        case measure => have := hg.out; omega
        case rel => exact ⟨q + 1, r - t, i + 1, by go_num, rfl, by go_num, Lib.hid (by have := hg.out; omega), Lib.hid (by have h := he.out; have := H1.out; have := HT.out; rw [Nat.mul_add, Nat.add_mul]; omega), Lib.hid (by have := hr.out; have := H1.out; omega), Lib.hid (by have := hq.out; omega), rfl⟩
      · have g5 : decide ((t : Int) ≤ (r : Int)) = false := by rw [decide_eq_false_iff_not]; have := HT.out; omega
        have g6 : decide (t ≤ r) = false := by rw [decide_eq_false_iff_not]; have := HT.out; omega
        have p2 : IntKind.u64.wrap ((r : Int) + (n : Int)) = ((r + n : Nat) : Int) := by rw [IntKind.wrap_u64]; have := hr.out; have := H1.out; have := H2.out; omega
        have hb2 := Lib.hid hb
        clear hi hb
        go_wp2_with fail
        go_roundg (gk - 1)
        case measure => have := hg.out; omega
        case rel => exact ⟨q, r + n, i + 1, rfl, rfl, by go_num, Lib.hid (by have := hg.out; omega), Lib.hid (by have h := he.out; rw [Nat.mul_add]; omega), Lib.hid (by have := H1.out; have := hb2.out; omega), Lib.hid (by have := hq.out; omega), rfl⟩
    · have g4 : decide ((i : Int) < 100) = false := by rw [decide_eq_false_iff_not]; omega
      have hz : n * 100 / y = q := by
        have h := he.out
        have e : i = 100 := by omega
        subst e
        rw [← h, Nat.add_comm, Nat.add_mul_div_right _ _ (by have := H1.out; omega), Nat.div_eq_of_lt hr.out, Nat.zero_add]
      have HZ := Lib.hid hz
      clear hz hi
      go_wp2
      go_returns
      exact ⟨ret_u (by rw [HZ.out]), rfl⟩
theorem rpercent_any (p q : Int) (hp : In64 p) (hq : In64 q) (w : World) : Calls Try.prog 21 #[.int .i64 p, .int .i64 q] w fun e w' => e = .returned (.int .i64 (percentF p q)) ∧ w = w' := by
  obtain ⟨p1, p2⟩ := hp
  obtain ⟨q1, q2⟩ := hq
  have hcase : p < 1 ∨ (1 ≤ p ∧ q < 1) ∨ (1 ≤ p ∧ 1 ≤ q ∧ q ≤ p) ∨ (1 ≤ p ∧ p < q) := by omega
  rcases hcase with a | ⟨a, b⟩ | ⟨a, b, c⟩ | ⟨a, b⟩
  · have e : percentF p q = 0 := by unfold percentF; rw [if_pos (by omega)]
    rw [e]
    go_enter Try.func21, Try.ntmps21
    go_wp2
    go_returns
    exact ⟨rfl, rfl⟩
  · have e : percentF p q = 0 := by unfold percentF; rw [if_pos (by omega)]
    rw [e]
    go_enter Try.func21, Try.ntmps21
    go_wp2
    go_returns
    exact ⟨rfl, rfl⟩
  · have e : percentF p q = 100 := by unfold percentF; rw [if_neg (by omega), if_pos c]
    rw [e]
    go_enter Try.func21, Try.ntmps21
    go_wp2
    go_returns
    exact ⟨rfl, rfl⟩
  · have e : percentF p q = ((p.toNat * 100 / q.toNat : Nat) : Int) := by unfold percentF; rw [if_neg (by omega), if_neg (by omega)]
    rw [e]
    obtain ⟨p, rfl⟩ := Int.eq_ofNat_of_zero_le (show 0 ≤ p by omega)
    obtain ⟨q, rfl⟩ := Int.eq_ofNat_of_zero_le (show 0 ≤ q by omega)
    simp only [Int.toNat_natCast]
    have hlt : p * 100 / q < 100 := by
      rw [Nat.div_lt_iff_lt_mul (by omega)]
      omega
    go_enter Try.func21, Try.ntmps21
    go_wp2_with fail
    refine (part_any p q (by omega) (by omega) _).mono ?_
    rintro e w1 ⟨rfl, rfl⟩
    obtain ⟨z, hz⟩ : ∃ z, p * 100 / q = z := ⟨_, rfl⟩
    rw [hz] at hlt ⊢
    have HZ := Lib.hid hz
    clear hz
    go_wp2
    go_returns
    exact ⟨ret_i (by rw [HZ.out]), rfl⟩
set_option maxHeartbeats 1000000 in
theorem rlog_any (n : Int) (hn : In64 n) (w : World) : Calls Try.prog 23 #[.int .i64 n] w fun e w' => e = .returned (.int .i64 (logF n)) ∧ w = w' := by
  obtain ⟨n1, n2⟩ := hn
  have hstart : ∃ m : Nat, m < 9223372036854775808 ∧ ((n < 1 ∧ m = 0) ∨ n = (m : Int)) := by
    by_cases h : n < 1
    · exact ⟨0, by omega, .inl ⟨h, rfl⟩⟩
    · exact ⟨n.toNat, by omega, .inr (by omega)⟩
  obtain ⟨m, hm, hcase⟩ := hstart
  rcases hcase with ⟨h, rfl⟩ | rfl
  · have e : logF n = -1 := if_pos h
    rw [e]
    clear e hm
    go_enter Try.func23, Try.ntmps23
    go_wp2_with fail
    go_loopg [0, 3] 0 (fun g a b wr => a = .int .i64 n ∧ b = .int .i64 (-1) ∧ wr = w)
    case atStart => exact ⟨rfl, rfl, rfl⟩
    case round =>
      obtain ⟨rfl, rfl, rfl⟩ := hrel
      go_wp2
      go_returns
      exact ⟨rfl, rfl⟩
  · have e : logF (m : Int) = (Lib.bitLen m : Int) - 1 := by
      unfold logF
      split
      · have : m = 0 := by omega
        subst this
        rfl
      · rw [Int.toNat_natCast]
    rw [e]
    have hl : Lib.bitLen m ≤ 63 := Lib.bitLen_le m 63 (by omega) hm
    have HL := Lib.hid hl
    have HM := Lib.hid hm
    clear e n1 n2 hm hl
    go_enter Try.func23, Try.ntmps23
    go_wp2_with fail
    go_loopg [0, 3] m (fun g a b wr => ∃ (x : Nat) (k : Int), a = .int .i64 x ∧ b = .int .i64 k ∧ Hid (g = x) ∧ Hid (x < 9223372036854775808) ∧ Hid (k + (Lib.bitLen x : Int) = (Lib.bitLen m : Int) - 1) ∧ Hid (-1 ≤ k) ∧ wr = w)
    case atStart => exact ⟨m, -1, rfl, rfl, Lib.hid rfl, HM, Lib.hid (by omega), Lib.hid (by omega), rfl⟩
    case round =>
      obtain ⟨x, k, rfl, rfl, hg, hx, he, hk, rfl⟩ := hrel
      obtain ⟨z, hz2⟩ : ∃ z, x / 2 = z := ⟨_, rfl⟩
      have p1 : (x : Int) / 2 = (z : Int) := by omega
      have p2 : wrap64 (z : Int) = (z : Int) := by unfold wrap64; have := hx.out; omega
      have HX2 := Lib.hid hz2
      have HP2 := Lib.hid p2
      clear hz2 p2
      have f2 : k ≤ 100 := by have := he.out; have := HL.out; omega
      have f3 : -1 ≤ k := hk.out
      by_cases h0 : x = 0
      · subst h0
        have hz : k = (Lib.bitLen m : Int) - 1 := by have := he.out; rw [bitLen_zero] at this; omega
        have HZ := Lib.hid hz
        clear hz
        go_wp2
        go_returns
        exact ⟨ret_i HZ.out, rfl⟩
      · have f4 : (1 : Int) ≤ (x : Int) := by omega
        have hh := Lib.bitLen_half x h0 (Nat.lt_trans hx.out (by decide))
        have HH := Lib.hid hh
        have H0 := Lib.hid h0
        clear hh h0
        go_wp2_with fail
        go_roundg z
        case measure => have := hg.out; have := H0.out; have := HX2.out; omega
        case rel => exact ⟨z, k + 1, by rw [HP2.out], rfl, Lib.hid rfl, Lib.hid (by have := hx.out; have := HX2.out; omega), Lib.hid (by have := he.out; have := HH.out; rw [HX2.out] at this; omega), Lib.hid (by omega), rfl⟩
end Go.Proofs.Ytplppmgecknhiaa.NumF
