/- The plain law of IdleChooses and its walk: for any ways, rest, limit and place the program's answers are the document's. Condition: the row's own bounds on a slice that came in. -/
import Derived.Test.YtpefmgmhclbcbaaPIdleChoosesx6
import Derived.Test.YtpefmgmhclbcbaaOpen
namespace Go.Proofs.Ytpefmgmhclbcbaa.WalkIdleChooses
set_option linter.unusedVariables false
open Go.RowKit Go.Proofs.Ytpefmgmhclbcbaa.PIdleChooses Go.Proofs.YtpefmgmhclbcbaaW.PrintWords Go.Proofs.YtpefmgmhclbcbaaW.PrintLast Go.Proofs.Ytpefmgmhclbcbaa.Open

def conv (x : S36) : S93 := ⟨x.f0, x.f1, x.f2⟩
theorem rd_conv (l : List S36) (i : Int) : rd_T93 (l.map conv) i = conv (rd_T36 l i) := by
  unfold rd_T93 rd_T36
  rw [List.getD_eq_getElem?_getD, List.getD_eq_getElem?_getD, List.getElem?_map]
  cases l[i.toNat]? <;> rfl

theorem known_ok : davitlaw23_known.f 20 = some true := by decide +kernel

theorem wrap_in {n : Int} (h0 : -9223372036854775808 ≤ n) (h1 : n ≤ 9223372036854775807) : wrap64 n = n := by unfold wrap64; omega

theorem given_from (l : List S36) (hl : l.length ≤ 5864062014634) (d : Nat) : ∀ (k i : Nat), i ≤ l.length → l.length - i = d → d < k →
    davitlaw23_given.l0 k l ((l.take i).map conv) (i : Int) = some (l.map conv) := by
  induction d with
  | zero =>
    intro k i h0 h1 hk
    obtain ⟨k, rfl⟩ : ∃ m, k = m + 1 := ⟨k - 1, by omega⟩
    simp only [davitlaw23_given.l0]
    rw [if_neg (by omega), List.take_of_length_le (by omega)]
  | succ d ih =>
    intro k i h0 h1 hk
    obtain ⟨k, rfl⟩ : ∃ m, k = m + 1 := ⟨k - 1, by omega⟩
    have hlt : i < l.length := by omega
    simp only [davitlaw23_given.l0]
    rw [if_pos (by omega), if_pos (by omega), if_pos (by simp; omega), wrap_in (by omega) (by omega)]
    have e : (l.take i).map conv ++ [(⟨(rd_T36 l (i : Int)).f0, (rd_T36 l (i : Int)).f1, (rd_T36 l (i : Int)).f2⟩ : S93)] = (l.take (i + 1)).map conv := by
      rw [List.take_succ_eq_append_getElem hlt, List.map_append]
      congr 1
      simp [conv, rd_T36, List.getElem?_eq_getElem hlt]
    rw [e]
    have := ih k (i + 1) (by omega) (by omega) (by omega)
    simpa using this
theorem given_f (l : List S36) (hl : l.length ≤ 5864062014634) (k : Nat) (hk : l.length < k) : davitlaw23_given.f k l = some (l.map conv) := by
  have := given_from l hl l.length k 0 (by omega) (by omega) hk
  simpa [davitlaw23_given.f] using this

/-- One way may stand behind another one. -/
def okB (x y : S36) : Bool := decide (y.f0 ≤ x.f0) && decide (y.f1 ≤ x.f1) && decide (x.f2 ≤ y.f2) && decide (0 ≤ x.f2)
theorem behind_conv (x y : S36) : idle_State_behind.f (conv x).f0 (conv x).f1 (conv x).f2 (conv y).f0 (conv y).f1 (conv y).f2 = some (okB x y) := by
  unfold idle_State_behind.f okB conv
  by_cases h0 : y.f0 ≤ x.f0
  · by_cases h1 : y.f1 ≤ x.f1
    · by_cases h2 : x.f2 ≤ y.f2
      · simp [h0, h1, h2]
      · simp [h0, h1, h2]
    · simp [h0, h1]
  · simp [h0]

theorem right_loops (l : List S36) (hl : l.length ≤ 8) (d : Nat) : ∀ (k k' i : Nat), 1 ≤ i → i ≤ l.length → l.length - i = d → d < k → d < k' →
    ∃ b, idle_Right.l0 k (l.map conv) (l.length : Int) (i : Int) (rd_T36 l ((i : Int) - 1)).f0 (rd_T36 l ((i : Int) - 1)).f1 (rd_T36 l ((i : Int) - 1)).f2 = some b ∧ davitref23_Right.l0 k' l (i : Int) = some b := by
  induction d with
  | zero =>
    intro k k' i hi h0 h1 hk hk'
    obtain ⟨k, rfl⟩ : ∃ m, k = m + 1 := ⟨k - 1, by omega⟩
    obtain ⟨k', rfl⟩ : ∃ m, k' = m + 1 := ⟨k' - 1, by omega⟩
    refine ⟨true, ?_, ?_⟩
    · simp only [idle_Right.l0]; rw [if_neg (by omega)]
    · simp only [davitref23_Right.l0]; rw [if_neg (by omega)]
  | succ d ih =>
    intro k k' i hi h0 h1 hk hk'
    obtain ⟨k, rfl⟩ : ∃ m, k = m + 1 := ⟨k - 1, by omega⟩
    obtain ⟨k', rfl⟩ : ∃ m, k' = m + 1 := ⟨k' - 1, by omega⟩
    have hb := behind_conv (rd_T36 l (i : Int)) (rd_T36 l ((i : Int) - 1))
    obtain ⟨b, h2, h3⟩ := ih k k' (i + 1) (by omega) (by omega) (by omega) (by omega) (by omega)
    have e1 : ((i + 1 : Nat) : Int) = (i : Int) + 1 := by omega
    have e2 : (i : Int) + 1 - 1 = (i : Int) := by omega
    rw [e1, e2] at h2
    rw [e1] at h3
    simp only [idle_Right.l0, davitref23_Right.l0]
    rw [if_pos (by omega), if_pos (by omega), if_pos (by simp; omega), rd_conv, if_pos (by omega), if_pos (by omega), wrap_in (n := (i : Int) - 1) (by omega) (by omega), if_pos (by omega), if_pos (by omega), wrap_in (n := (i : Int) + 1) (by omega) (by omega), h3]
    simp only [show (conv (rd_T36 l ((i : Int) - 1))).f0 = (rd_T36 l ((i : Int) - 1)).f0 from rfl, show (conv (rd_T36 l ((i : Int) - 1))).f1 = (rd_T36 l ((i : Int) - 1)).f1 from rfl, show (conv (rd_T36 l ((i : Int) - 1))).f2 = (rd_T36 l ((i : Int) - 1)).f2 from rfl] at hb
    rw [hb]
    simp only [Option.bind_some]
    have h2' : idle_Right.l0 k (l.map conv) (l.length : Int) ((i : Int) + 1) (conv (rd_T36 l (i : Int))).f0 (conv (rd_T36 l (i : Int))).f1 (conv (rd_T36 l (i : Int))).f2 = some b := h2
    rw [h2']
    unfold okB
    by_cases c0 : (rd_T36 l ((i : Int) - 1)).f0 ≤ (rd_T36 l (i : Int)).f0
    · by_cases c1 : (rd_T36 l ((i : Int) - 1)).f1 ≤ (rd_T36 l (i : Int)).f1
      · by_cases c2 : (rd_T36 l (i : Int)).f2 ≤ (rd_T36 l ((i : Int) - 1)).f2
        · by_cases c3 : 0 ≤ (rd_T36 l (i : Int)).f2
          · refine ⟨b, ?_, ?_⟩
            · simp [c0, c1, c2, c3]
            · rw [if_neg (by omega), if_neg (by omega), if_neg (by omega), if_neg (by omega)]
          · refine ⟨false, ?_, ?_⟩
            · simp [c3]
            · rw [if_neg (by omega), if_neg (by omega), if_neg (by omega), if_pos (by omega)]
        · refine ⟨false, ?_, ?_⟩
          · simp [c2]
          · rw [if_neg (by omega), if_neg (by omega), if_pos (by omega)]
      · refine ⟨false, ?_, ?_⟩
        · simp [c1]
        · rw [if_neg (by omega), if_pos (by omega)]
    · refine ⟨false, ?_, ?_⟩
      · simp [c0]
      · rw [if_pos (by omega)]

theorem right_f (l : List S36) : ∃ b, idle_Right.f 20 (l.map conv) = some b ∧ davitref23_Right.f 20 l = some b := by
  unfold idle_Right.f davitref23_Right.f
  rw [List.length_map]
  by_cases h0 : l.length = 0
  · rw [if_pos (by omega), if_pos (by omega)]
    exact ⟨false, by simp [idle_Right.j0], by simp [davitref23_Right.j0]⟩
  · rw [if_neg (by omega), if_neg (c := (l.length : Int) < 1) (by omega)]
    by_cases h8 : l.length > 8
    · rw [if_pos (by omega), if_pos (by omega)]
      exact ⟨false, by simp [idle_Right.j0], by simp [davitref23_Right.j0]⟩
    · have c8 : ¬ (l.length : Int) > 8 := by omega
      have cp : 0 < (l.length : Int) := by omega
      rw [if_neg c8, if_pos cp, if_neg c8, if_pos cp, rd_conv]
      have e0 : (conv (rd_T36 l 0)).f0 = (rd_T36 l 0).f0 := rfl
      have e1 : (conv (rd_T36 l 0)).f1 = (rd_T36 l 0).f1 := rfl
      rw [e0, e1]
      by_cases c0 : (rd_T36 l 0).f0 = 0
      · rw [if_pos c0, if_pos c0]
        by_cases c1 : (rd_T36 l 0).f1 = 0
        · rw [if_pos c1]
          have hb := behind_conv (rd_T36 l 0) (rd_T36 l 0)
          by_cases c2 : (rd_T36 l 0).f2 < 0
          · refine ⟨false, ?_, ?_⟩
            · simp only [c1, bne_self_eq_false, idle_Right.j0, Bool.false_eq_true, if_false, idle_Right.l0]
              rw [List.length_map, if_pos (by omega), if_pos (by omega), if_pos (by omega), if_pos (by omega), rd_conv, hb]
              have : okB (rd_T36 l 0) (rd_T36 l 0) = false := by unfold okB; simp; omega
              rw [this]
              simp
            · simp [davitref23_Right.j0, c2]
          · have hok : okB (rd_T36 l 0) (rd_T36 l 0) = true := by unfold okB; simp; omega
            obtain ⟨b, h2, h3⟩ := right_loops l (by omega) (l.length - 1) 18 19 1 (by omega) (by omega) (by omega) (by omega) (by omega)
            refine ⟨b, ?_, ?_⟩
            · simp only [c1, bne_self_eq_false, idle_Right.j0, Bool.false_eq_true, if_false]
              rw [List.length_map, if_pos (by omega)]
              have : idle_Right.l0 19 (l.map conv) (l.length : Int) 0 (rd_T93 (l.map conv) 0).f0 (rd_T93 (l.map conv) 0).f1 (rd_T93 (l.map conv) 0).f2 = idle_Right.l0 18 (l.map conv) (l.length : Int) 1 (rd_T93 (l.map conv) 0).f0 (rd_T93 (l.map conv) 0).f1 (rd_T93 (l.map conv) 0).f2 := by
                simp only [idle_Right.l0]
                rw [List.length_map, if_pos (by omega), if_pos (by omega), if_pos (by omega), rd_conv, hb, hok]
                simp [wrap64]
              rw [this, rd_conv]
              have h2' := h2
              rw [show ((1 : Nat) : Int) - 1 = 0 from rfl] at h2'
              exact h2'
            · simp only [c2, decide_false, davitref23_Right.j0, Bool.false_eq_true, if_false]
              simpa using h3
        · rw [if_neg c1]
          refine ⟨false, ?_, by simp [davitref23_Right.j0]⟩
          have : ((rd_T36 l 0).f1 != 0) = true := by simpa using c1
          rw [this]
          simp [idle_Right.j0]
      · rw [if_neg c0, if_neg c0]
        exact ⟨false, by simp [idle_Right.j0], by simp [davitref23_Right.j0]⟩

/-- The deepest of the first n ways that fit. -/
def deep (l : List S36) (rest limit : Int) : Nat → Int
  | 0 => 0
  | n + 1 => if (rd_T36 l (n : Int)).f0 ≤ limit ∧ (rd_T36 l (n : Int)).f1 ≤ rest then (n : Int) else deep l rest limit n

theorem choose_from (l : List S36) (rest limit : Int) (hl : l.length ≤ 5864062014634) : ∀ (m k : Nat), m < l.length → m < k → idle_Choose.l0 k (l.map conv) rest limit (m : Int) = some (deep l rest limit (m + 1)) := by
  intro m
  induction m with
  | zero =>
    intro k h hk
    obtain ⟨k, rfl⟩ : ∃ m, k = m + 1 := ⟨k - 1, by omega⟩
    simp [idle_Choose.l0, deep]
  | succ m ih =>
    intro k h hk
    obtain ⟨k, rfl⟩ : ∃ m, k = m + 1 := ⟨k - 1, by omega⟩
    have e : wrap64 (((m + 1 : Nat) : Int) - 1) = (m : Int) := by unfold wrap64; omega
    have h1 := ih k (by omega) (by omega)
    simp only [idle_Choose.l0]
    rw [if_pos (by omega), if_pos (by omega), if_pos (by simp; omega), rd_conv, e, h1]
    have e0 : (conv (rd_T36 l ((m + 1 : Nat) : Int))).f0 = (rd_T36 l ((m + 1 : Nat) : Int)).f0 := rfl
    have e1 : (conv (rd_T36 l ((m + 1 : Nat) : Int))).f1 = (rd_T36 l ((m + 1 : Nat) : Int)).f1 := rfl
    rw [e0, e1]
    by_cases c0 : (rd_T36 l ((m + 1 : Nat) : Int)).f0 ≤ limit
    · by_cases c1 : (rd_T36 l ((m + 1 : Nat) : Int)).f1 ≤ rest
      · rw [if_pos c0, if_pos c1, deep, if_pos ⟨c0, c1⟩]
      · rw [if_pos c0, if_neg c1, deep.eq_def l rest limit (m + 1 + 1)]
        simp only
        rw [if_neg (fun h => c1 h.2)]
    · rw [if_neg c0, deep.eq_def l rest limit (m + 1 + 1)]
      simp only
      rw [if_neg (fun h => c0 h.1)]
theorem choose_f (l : List S36) (rest limit : Int) (hl : l.length ≤ 5864062014634) (k : Nat) (hk : l.length < k) : idle_Choose.f k (l.map conv) rest limit = some (deep l rest limit l.length) := by
  unfold idle_Choose.f
  rw [List.length_map]
  by_cases h0 : l.length = 0
  · obtain ⟨k, rfl⟩ : ∃ m, k = m + 1 := ⟨k - 1, by omega⟩
    rw [h0]
    simp [idle_Choose.l0, deep, wrap64]
  · have e : wrap64 ((l.length : Int) - 1) = ((l.length - 1 : Nat) : Int) := by unfold wrap64; omega
    rw [e, choose_from l rest limit hl (l.length - 1) k (by omega) (by omega), show l.length - 1 + 1 = l.length from by omega]

theorem rchoose_from (l : List S36) (rest limit : Int) (hl : l.length ≤ 5864062014634) (d : Nat) : ∀ (k i : Nat), i ≤ l.length → l.length - i = d → d < k → davitref23_Choose.l0 k l rest limit (deep l rest limit i) (i : Int) = some (deep l rest limit l.length) := by
  induction d with
  | zero =>
    intro k i h0 h1 hk
    obtain ⟨k, rfl⟩ : ∃ m, k = m + 1 := ⟨k - 1, by omega⟩
    simp only [davitref23_Choose.l0]
    rw [if_neg (by omega), show i = l.length from by omega]
  | succ d ih =>
    intro k i h0 h1 hk
    obtain ⟨k, rfl⟩ : ∃ m, k = m + 1 := ⟨k - 1, by omega⟩
    have h2 := ih k (i + 1) (by omega) (by omega) (by omega)
    have e : wrap64 ((i : Int) + 1) = ((i + 1 : Nat) : Int) := by unfold wrap64; omega
    simp only [davitref23_Choose.l0]
    rw [if_pos (by omega), if_pos (by omega), e]
    rw [deep] at h2
    by_cases c0 : (rd_T36 l (i : Int)).f0 ≤ limit
    · by_cases c1 : (rd_T36 l (i : Int)).f1 ≤ rest
      · rw [if_pos c0, if_pos c1]
        rw [if_pos ⟨c0, c1⟩] at h2
        exact h2
      · rw [if_pos c0, if_neg c1]
        rw [if_neg (fun h => c1 h.2)] at h2
        exact h2
    · rw [if_neg c0]
      rw [if_neg (fun h => c0 h.1)] at h2
      exact h2
theorem rchoose_f (l : List S36) (rest limit : Int) (hl : l.length ≤ 5864062014634) (k : Nat) (hk : l.length < k) : davitref23_Choose.f k l rest limit = some (deep l rest limit l.length) := by
  have := rchoose_from l rest limit hl l.length k 0 (by omega) (by omega) hk
  simpa [davitref23_Choose.f, deep] using this

theorem cost_f (l : List S36) (at_ ticks : Int) : idle_Cost.f (l.map conv) at_ ticks = davitref23_Cost.f l at_ ticks ∧ ∃ n, davitref23_Cost.f l at_ ticks = some n := by
  unfold idle_Cost.f davitref23_Cost.f idle_within.f
  rw [List.length_map, rd_conv]
  have e2 : (conv (rd_T36 l at_)).f2 = (rd_T36 l at_).f2 := rfl
  rw [e2]
  by_cases c0 : at_ < 0
  · simp [c0]
  · by_cases c1 : at_ ≥ (l.length : Int)
    · simp [c0, c1]
    · by_cases c2 : ticks < 0
      · simp [c0, c1, c2, show ¬ ticks ≥ 0 from by omega]
      · by_cases c3 : ticks > 2147483648
        · simp [c0, c1, c2, c3, show ticks ≥ 0 from by omega, show ¬ ticks ≤ 2147483648 from by omega]
        · have d0 : 0 ≤ at_ := by omega
          have d1 : at_ < (l.length : Int) := by omega
          have d2 : ticks ≥ 0 := by omega
          have d3 : ticks ≤ 2147483648 := by omega
          by_cases c4 : (rd_T36 l at_).f2 < 0
          · simp [c0, c1, c2, c3, d0, d1, d2, d3, c4, show ¬ (rd_T36 l at_).f2 ≥ 0 from by omega]
          · by_cases c5 : (rd_T36 l at_).f2 > 2147483648
            · simp [c0, c1, c2, c3, d0, d1, d2, d3, c4, c5, show (rd_T36 l at_).f2 ≥ 0 from by omega, show ¬ (rd_T36 l at_).f2 ≤ 2147483648 from by omega]
            · simp [c0, c1, c2, c3, d0, d1, d2, d3, c4, c5, show (rd_T36 l at_).f2 ≥ 0 from by omega, show (rd_T36 l at_).f2 ≤ 2147483648 from by omega]

theorem pure (l : List S36) (hl : l.length ≤ 5864062014634) (rest limit at_ : Int) : ∃ k, davitlaw23_IdleChooses.f k l rest limit at_ = some true := by
  by_cases h : (l.length : Int) > 100
  · refine ⟨20, ?_⟩
    unfold davitlaw23_IdleChooses.f
    rw [if_pos h, known_ok]
    rfl
  · obtain ⟨b, r1, r2⟩ := right_f l
    have m1 : ∀ (n : Nat), idle_Right.f (20 + n) (l.map conv) = some b := fun n => by
      induction n with
      | zero => exact r1
      | succ n ih => exact idle_Right.mono _ _ _ ih
    have m2 : ∀ (n : Nat), davitref23_Right.f (20 + n) l = some b := fun n => by
      induction n with
      | zero => exact r2
      | succ n ih => exact davitref23_Right.mono _ _ _ ih
    have m3 : ∀ (n : Nat), davitlaw23_known.f (20 + n) = some true := fun n => by
      induction n with
      | zero => exact known_ok
      | succ n ih => exact davitlaw23_known.mono _ _ ih
    obtain ⟨c1, n, c2⟩ := cost_f l at_ rest
    refine ⟨20 + 100, ?_⟩
    unfold davitlaw23_IdleChooses.f
    rw [if_neg h, given_f l hl 120 (by omega)]
    simp only [Option.bind_some]
    rw [m1 100, m2 100, choose_f l rest limit hl 120 (by omega), rchoose_f l rest limit hl 120 (by omega), c1, c2, m3 100]
    simp

/-- The list of ways that cells hold. -/
def list (len : Nat) (V : Nat → Nat → Value) : List S36 := (List.range len).map fun i => ⟨numOf (V i 0), numOf (V i 1), numOf (V i 2)⟩
theorem list_C {W : World} {a : Option Addr} {len : Nat} {V : Nat → Nat → Value} (h : StructRow W a len [.int .i64, .int .i64, .int .i64] V) (hl : len * 24 ≤ 140737488351232) : Kd.C k36 W a (list len V).length (list len V) := by
  have e : (list len V).length = len := by simp [list]
  refine ⟨rfl, by omega, fun hn => ?_⟩
  obtain ⟨ad, had⟩ := h.1 (by omega)
  refine ⟨ad, had, fun j p hj => ?_⟩
  have hjl : j < len := by have := (List.getElem?_eq_some_iff.1 hj).1; omega
  obtain rfl : (⟨numOf (V j 0), numOf (V j 1), numOf (V j 2)⟩ : S36) = p := by simpa [list, hjl] using hj
  refine ⟨_, rfl, k36_mk W _, fun i u hi => ?_⟩
  have hr := h.2 j hjl ad had
  rcases i with _ | _ | _ | i
  · obtain rfl : Value.int .i64 (numOf (V j 0)) = u := by simpa using hi
    exact (hr 0 _ rfl).1
  · obtain rfl : Value.int .i64 (numOf (V j 1)) = u := by simpa using hi
    exact (hr 1 _ rfl).1
  · obtain rfl : Value.int .i64 (numOf (V j 2)) = u := by simpa using hi
    exact (hr 2 _ rfl).1
  · simp at hi

theorem walk (W : World) (a : Option Addr) (len cap : Nat) (V : Nat → Nat → Value) (h : StructRow W a len [.int .i64, .int .i64, .int .i64] V) (hc : len ≤ cap) (hl : len * 24 ≤ 140737488351232) (rest : Int) (w1 : (Lit.int .i64 rest).wf = true) (limit : Int) (w2 : (Lit.int .i64 limit).wf = true) (at_ : Int) (w3 : (Lit.int .i64 at_).wf = true) :
    Calls Try.prog 3 #[.slice a len cap, .int .i64 rest, .int .i64 limit, .int .i64 at_] W fun e W' => e = .returned (.bool true) ∧ Below W.heap.size W W' := by
  have e : (list len V).length = len := by simp [list]
  obtain ⟨k, hk⟩ := pure (list len V) (by omega) rest limit at_
  have := davitlaw23_IdleChooses.calls k a cap (list len V) rest limit at_ true W (list_C h hl) (by omega) hk
  rw [e] at this
  exact this
end Go.Proofs.Ytpefmgmhclbcbaa.WalkIdleChooses
