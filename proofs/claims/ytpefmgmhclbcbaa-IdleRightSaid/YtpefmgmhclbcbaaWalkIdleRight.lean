/- The plain law of IdleRight and its walk: of ways that can be a table the one that is chosen wakes within the limit, and a longer rest is no lighter way. Condition: the row's own bounds on a slice that came in. -/
import Derived.Test.YtpefmgmhclbcbaaPIdleRightx4
import Derived.Test.YtpefmgmhclbcbaaOpen
namespace Go.Proofs.Ytpefmgmhclbcbaa.WalkIdleRight
set_option linter.unusedVariables false
open Go.RowKit Go.Proofs.Ytpefmgmhclbcbaa.PIdleRight Go.Proofs.YtpefmgmhclbcbaaW.PrintWords Go.Proofs.YtpefmgmhclbcbaaW.PrintLast Go.Proofs.Ytpefmgmhclbcbaa.Open

def conv (x : S36) : S93 := ⟨x.f0, x.f1, x.f2⟩
theorem rd_conv (l : List S36) (i : Int) : rd_T93 (l.map conv) i = conv (rd_T36 l i) := by
  unfold rd_T93 rd_T36
  rw [List.getD_eq_getElem?_getD, List.getD_eq_getElem?_getD, List.getElem?_map]
  cases l[i.toNat]? <;> rfl

theorem known_ok : davitlaw23_known.f 20 = some true := by decide +kernel

theorem wrap_in {n : Int} (h0 : -9223372036854775808 ≤ n) (h1 : n ≤ 9223372036854775807) : wrap64 n = n := by unfold wrap64; omega

theorem given_from (l : List S36) (hl : l.length ≤ 5864062014634) (d : Nat) : ∀ (k i : Nat), i ≤ l.length → l.length - i = d → d < k →
    davitlaw23_given.l0 k l ((l.take i).map conv) (i : Int) = some (l.map conv) := by
  induction d with
  | zero =>
    intro k i h0 h1 hk
    obtain ⟨k, rfl⟩ : ∃ m, k = m + 1 := ⟨k - 1, by omega⟩
    simp only [davitlaw23_given.l0]
    rw [if_neg (by omega), List.take_of_length_le (by omega)]
  | succ d ih =>
    intro k i h0 h1 hk
    obtain ⟨k, rfl⟩ : ∃ m, k = m + 1 := ⟨k - 1, by omega⟩
    have hlt : i < l.length := by omega
    simp only [davitlaw23_given.l0]
    rw [if_pos (by omega), if_pos (by omega), if_pos (by simp; omega), wrap_in (by omega) (by omega)]
    have e : (l.take i).map conv ++ [(⟨(rd_T36 l (i : Int)).f0, (rd_T36 l (i : Int)).f1, (rd_T36 l (i : Int)).f2⟩ : S93)] = (l.take (i + 1)).map conv := by
      rw [List.take_succ_eq_append_getElem hlt, List.map_append]
      congr 1
      simp [conv, rd_T36, List.getElem?_eq_getElem hlt]
    rw [e]
    have := ih k (i + 1) (by omega) (by omega) (by omega)
    simpa using this
theorem given_f (l : List S36) (hl : l.length ≤ 5864062014634) (k : Nat) (hk : l.length < k) : davitlaw23_given.f k l = some (l.map conv) := by
  have := given_from l hl l.length k 0 (by omega) (by omega) hk
  simpa [davitlaw23_given.f] using this

theorem right_loop (l : List S36) (hl : l.length ≤ 8) (d : Nat) : ∀ (k i : Nat) (p q r : Int), i ≤ l.length → l.length - i = d → d < k → ∃ b, idle_Right.l0 k (l.map conv) (l.length : Int) (i : Int) p q r = some b := by
  induction d with
  | zero =>
    intro k i p q r h0 h1 hk
    obtain ⟨k, rfl⟩ : ∃ m, k = m + 1 := ⟨k - 1, by omega⟩
    exact ⟨true, by simp only [idle_Right.l0]; rw [if_neg (by omega)]⟩
  | succ d ih =>
    intro k i p q r h0 h1 hk
    obtain ⟨k, rfl⟩ : ∃ m, k = m + 1 := ⟨k - 1, by omega⟩
    have hb : ∃ b, idle_State_behind.f (rd_T93 (l.map conv) (i : Int)).f0 (rd_T93 (l.map conv) (i : Int)).f1 (rd_T93 (l.map conv) (i : Int)).f2 p q r = some b := by
      unfold idle_State_behind.f
      split
      · split
        · split
          · exact ⟨_, rfl⟩
          · exact ⟨_, rfl⟩
        · exact ⟨_, rfl⟩
      · exact ⟨_, rfl⟩
    obtain ⟨b, hb⟩ := hb
    obtain ⟨b2, h2⟩ := ih k (i + 1) (rd_T93 (l.map conv) (i : Int)).f0 (rd_T93 (l.map conv) (i : Int)).f1 (rd_T93 (l.map conv) (i : Int)).f2 (by omega) (by omega) (by omega)
    have e : wrap64 ((i : Int) + 1) = ((i + 1 : Nat) : Int) := by unfold wrap64; omega
    simp only [idle_Right.l0]
    rw [if_pos (by omega), if_pos (by omega), if_pos (by simp; omega), hb, e, h2]
    cases b
    · exact ⟨false, by simp⟩
    · exact ⟨b2, by simp⟩
theorem right_f (l : List S36) : ∃ b, idle_Right.f 20 (l.map conv) = some b ∧ (b = true → 0 < l.length ∧ (rd_T36 l 0).f0 = 0) := by
  unfold idle_Right.f
  rw [List.length_map, rd_conv]
  have hno : idle_Right.j0 20 (l.map conv) true = some false := by simp [idle_Right.j0]
  by_cases h0 : l.length = 0
  · rw [if_pos (by omega)]
    exact ⟨false, hno, fun h => by cases h⟩
  · rw [if_neg (by omega)]
    by_cases h8 : l.length > 8
    · rw [if_pos (by omega)]
      exact ⟨false, hno, fun h => by cases h⟩
    · rw [if_neg (by omega), if_pos (by omega)]
      by_cases c0 : (conv (rd_T36 l 0)).f0 = 0
      · rw [if_pos c0]
        cases hc : ((conv (rd_T36 l 0)).f1 != 0) with
        | true => exact ⟨false, hno, fun h => by cases h⟩
        | false =>
          obtain ⟨b, hb⟩ := right_loop l (by omega) l.length 19 0 (rd_T93 (l.map conv) 0).f0 (rd_T93 (l.map conv) 0).f1 (rd_T93 (l.map conv) 0).f2 (by omega) (by omega) (by omega)
          refine ⟨b, ?_, fun _ => ⟨by omega, c0⟩⟩
          simp only [idle_Right.j0, Bool.false_eq_true, if_false]
          rw [List.length_map, if_pos (by omega)]
          exact hb
      · rw [if_neg c0]
        exact ⟨false, hno, fun h => by cases h⟩

/-- The deepest of the first n ways that fit. -/
def deep (l : List S36) (rest limit : Int) : Nat → Int
  | 0 => 0
  | n + 1 => if (rd_T36 l (n : Int)).f0 ≤ limit ∧ (rd_T36 l (n : Int)).f1 ≤ rest then (n : Int) else deep l rest limit n

theorem choose_from (l : List S36) (rest limit : Int) (hl : l.length ≤ 5864062014634) : ∀ (m k : Nat), m < l.length → m < k → idle_Choose.l0 k (l.map conv) rest limit (m : Int) = some (deep l rest limit (m + 1)) := by
  intro m
  induction m with
  | zero =>
    intro k h hk
    obtain ⟨k, rfl⟩ : ∃ m, k = m + 1 := ⟨k - 1, by omega⟩
    simp [idle_Choose.l0, deep]
  | succ m ih =>
    intro k h hk
    obtain ⟨k, rfl⟩ : ∃ m, k = m + 1 := ⟨k - 1, by omega⟩
    have e : wrap64 (((m + 1 : Nat) : Int) - 1) = (m : Int) := by unfold wrap64; omega
    have h1 := ih k (by omega) (by omega)
    simp only [idle_Choose.l0]
    rw [if_pos (by omega), if_pos (by omega), if_pos (by simp; omega), rd_conv, e, h1]
    have e0 : (conv (rd_T36 l ((m + 1 : Nat) : Int))).f0 = (rd_T36 l ((m + 1 : Nat) : Int)).f0 := rfl
    have e1 : (conv (rd_T36 l ((m + 1 : Nat) : Int))).f1 = (rd_T36 l ((m + 1 : Nat) : Int)).f1 := rfl
    rw [e0, e1]
    by_cases c0 : (rd_T36 l ((m + 1 : Nat) : Int)).f0 ≤ limit
    · by_cases c1 : (rd_T36 l ((m + 1 : Nat) : Int)).f1 ≤ rest
      · rw [if_pos c0, if_pos c1, deep, if_pos ⟨c0, c1⟩]
      · rw [if_pos c0, if_neg c1, deep.eq_def l rest limit (m + 1 + 1)]
        simp only
        rw [if_neg (fun h => c1 h.2)]
    · rw [if_neg c0, deep.eq_def l rest limit (m + 1 + 1)]
      simp only
      rw [if_neg (fun h => c0 h.1)]
theorem choose_f (l : List S36) (rest limit : Int) (hl : l.length ≤ 5864062014634) (k : Nat) (hk : l.length < k) : idle_Choose.f k (l.map conv) rest limit = some (deep l rest limit l.length) := by
  unfold idle_Choose.f
  rw [List.length_map]
  by_cases h0 : l.length = 0
  · obtain ⟨k, rfl⟩ : ∃ m, k = m + 1 := ⟨k - 1, by omega⟩
    rw [h0]
    simp [idle_Choose.l0, deep, wrap64]
  · have e : wrap64 ((l.length : Int) - 1) = ((l.length - 1 : Nat) : Int) := by unfold wrap64; omega
    rw [e, choose_from l rest limit hl (l.length - 1) k (by omega) (by omega), show l.length - 1 + 1 = l.length from by omega]

theorem deep_ge (l : List S36) (rest limit : Int) : ∀ n, 0 ≤ deep l rest limit n ∧ (0 < n → deep l rest limit n < n) ∧ deep l rest limit n ≤ n := by
  intro n
  induction n with
  | zero => simp [deep]
  | succ n ih =>
    rw [deep]
    split
    · omega
    · omega
theorem deep_fits (l : List S36) (rest limit : Int) (h : (rd_T36 l 0).f0 ≤ limit) : ∀ n, (rd_T36 l (deep l rest limit n)).f0 ≤ limit := by
  intro n
  induction n with
  | zero => exact h
  | succ n ih =>
    rw [deep]
    split
    · rename_i hc
      exact hc.1
    · exact ih
theorem deep_more (l : List S36) (rest more limit : Int) (h : rest ≤ more) : ∀ n, deep l rest limit n ≤ deep l more limit n := by
  intro n
  induction n with
  | zero => simp [deep]
  | succ n ih =>
    have g := (deep_ge l rest limit n).2.2
    rw [deep, deep.eq_def l more limit (n + 1)]
    simp only
    by_cases c0 : (rd_T36 l (n : Int)).f0 ≤ limit
    · by_cases c1 : (rd_T36 l (n : Int)).f1 ≤ rest
      · rw [if_pos ⟨c0, c1⟩, if_pos ⟨c0, by omega⟩]
        exact Int.le_refl _
      · rw [if_neg (fun h => c1 h.2)]
        split
        · omega
        · exact ih
    · rw [if_neg (fun h => c0 h.1), if_neg (fun h => c0 h.1)]
      exact ih

theorem pure (l : List S36) (hl : l.length ≤ 5864062014634) (rest more limit : Int) : ∃ k, davitlaw23_IdleRight.f k l rest more limit = some true := by
  have m3 : ∀ (n : Nat), davitlaw23_known.f (20 + n) = some true := fun n => by
    induction n with
    | zero => exact known_ok
    | succ n ih => exact davitlaw23_known.mono _ _ ih
  obtain ⟨b, r1, r2⟩ := right_f l
  have m1 : ∀ (n : Nat), idle_Right.f (20 + n) (l.map conv) = some b := fun n => by
    induction n with
    | zero => exact r1
    | succ n ih => exact idle_Right.mono _ _ _ ih
  refine ⟨20 + (l.length + 1) + 1, ?_⟩
  unfold davitlaw23_IdleRight.f
  rw [given_f l hl (20 + (l.length + 1) + 1) (by omega)]
  simp only [Option.bind_some]
  have hno : davitlaw23_IdleRight.j0 (20 + (l.length + 1) + 1) l rest more limit (l.map conv) true = some true := by
    simp only [davitlaw23_IdleRight.j0, if_true]
    rw [m3]
    rfl
  by_cases h : (l.length : Int) > 100
  · rw [if_pos h]
    exact hno
  · rw [if_neg h, show 20 + (l.length + 1) + 1 = 20 + (l.length + 1 + 1) from by omega, m1, show 20 + (l.length + 1 + 1) = 20 + (l.length + 1) + 1 from by omega]
    simp only [Option.bind_some]
    cases b with
    | false => exact hno
    | true =>
      obtain ⟨hp, h0⟩ := r2 rfl
      simp only [if_true]
      by_cases hlim : limit < 0
      · rw [decide_eq_true hlim]
        exact hno
      · rw [decide_eq_false hlim]
        simp only [davitlaw23_IdleRight.j0, Bool.false_eq_true, if_false]
        rw [choose_f l rest limit hl _ (by omega), choose_f l more limit hl _ (by omega), m3]
        simp only [Option.bind_some]
        have g := deep_ge l rest limit l.length
        have g2 := g.2.1 hp
        rw [if_neg (by omega), if_neg (by omega), if_pos (by omega), if_pos (by omega), if_neg (by have := deep_fits l rest limit (by omega) l.length; omega)]
        by_cases hr : rest > more
        · rw [if_pos hr]
        · rw [if_neg hr, if_pos (deep_more l rest more limit (by omega) l.length)]

/-- The list of ways that cells hold. -/
def list (len : Nat) (V : Nat → Nat → Value) : List S36 := (List.range len).map fun i => ⟨numOf (V i 0), numOf (V i 1), numOf (V i 2)⟩
theorem list_C {W : World} {a : Option Addr} {len : Nat} {V : Nat → Nat → Value} (h : StructRow W a len [.int .i64, .int .i64, .int .i64] V) (hl : len * 24 ≤ 140737488351232) : Kd.C k36 W a (list len V).length (list len V) := by
  have e : (list len V).length = len := by simp [list]
  refine ⟨rfl, by omega, fun hn => ?_⟩
  obtain ⟨ad, had⟩ := h.1 (by omega)
  refine ⟨ad, had, fun j p hj => ?_⟩
  have hjl : j < len := by have := (List.getElem?_eq_some_iff.1 hj).1; omega
  obtain rfl : (⟨numOf (V j 0), numOf (V j 1), numOf (V j 2)⟩ : S36) = p := by simpa [list, hjl] using hj
  refine ⟨_, rfl, k36_mk W _, fun i u hi => ?_⟩
  have hr := h.2 j hjl ad had
  rcases i with _ | _ | _ | i
  · obtain rfl : Value.int .i64 (numOf (V j 0)) = u := by simpa using hi
    exact (hr 0 _ rfl).1
  · obtain rfl : Value.int .i64 (numOf (V j 1)) = u := by simpa using hi
    exact (hr 1 _ rfl).1
  · obtain rfl : Value.int .i64 (numOf (V j 2)) = u := by simpa using hi
    exact (hr 2 _ rfl).1
  · simp at hi

theorem walk (W : World) (a : Option Addr) (len cap : Nat) (V : Nat → Nat → Value) (h : StructRow W a len [.int .i64, .int .i64, .int .i64] V) (hc : len ≤ cap) (hl : len * 24 ≤ 140737488351232) (rest : Int) (w1 : (Lit.int .i64 rest).wf = true) (more : Int) (w2 : (Lit.int .i64 more).wf = true) (limit : Int) (w3 : (Lit.int .i64 limit).wf = true) :
    Calls Try.prog 5 #[.slice a len cap, .int .i64 rest, .int .i64 more, .int .i64 limit] W fun e W' => e = .returned (.bool true) ∧ Below W.heap.size W W' := by
  have e : (list len V).length = len := by simp [list]
  obtain ⟨k, hk⟩ := pure (list len V) (by omega) rest more limit
  have := davitlaw23_IdleRight.calls k a cap (list len V) rest more limit true W (list_C h hl) (by omega) hk
  rw [e] at this
  exact this
end Go.Proofs.Ytpefmgmhclbcbaa.WalkIdleRight
