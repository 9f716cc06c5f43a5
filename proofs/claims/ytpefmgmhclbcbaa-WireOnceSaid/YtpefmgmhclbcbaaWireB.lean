/- Plain laws of events as bytes: what is put is got, and what is got, put, is its bytes. -/
import Derived.Test.YtpefmgmhclbcbaaWireA
namespace Go.Proofs.Ytpefmgmhclbcbaa.WireB
open Go.Proofs.Ytpefmgmhclbcbaa.WireA
set_option linter.unusedVariables false
def pw : Nat → Int
  | 0 => 1
  | i + 1 => 2 * pw i
def whichN (ns : Nat → Int) : Nat → Int
  | 0 => 0
  | i + 1 => whichN ns i + if ns i = 0 then 0 else pw i
def bodyN (ns : Nat → Int) : Nat → List Int
  | 0 => []
  | i + 1 => bodyN ns i ++ numL (ns i)
def putL (kind : Int) (ns : Nat → Int) : List Int := if 1 ≤ kind ∧ kind ≤ 30 then kind :: whichN ns 4 :: bodyN ns 4 else []
structure Rd where
  l : List Int
  why : Int
def chk (s : Rd) (ok : Bool) : Rd := if s.why = 0 ∧ ok = false then ⟨s.l, 13⟩ else s
def nxF (m : Nat) (s : Rd) : List Int × Rd := if s.why = 0 then (if s.l.length < m then (List.replicate m 0, ⟨s.l, 14⟩) else (s.l.take m, ⟨s.l.drop m, 0⟩)) else (List.replicate m 0, s)
def nx1 (s : Rd) : Int × Rd := ((nxF 1 s).1.headD 0, (nxF 1 s).2)
def okK (k : Int) : Bool := decide (1 ≤ k ∧ k ≤ 8)
def okN (n : Int) (k : Nat) : Bool := decide (n ≠ 0 ∧ width n = k)
def numTail (k : Nat) (s : Rd) : Int × Rd := (dec (nxF k s).1, chk (nxF k s).2 (okN (dec (nxF k s).1) k))
def number (s : Rd) : Int × Rd := if (chk (nx1 s).2 (okK (nx1 s).1)).why = 0 then numTail (nx1 s).1.toNat (chk (nx1 s).2 (okK (nx1 s).1)) else (0, chk (nx1 s).2 (okK (nx1 s).1))
def bit (w : Int) (i : Nat) : Bool := decide (w / pw i % 2 = 1)
def upd (ns : Nat → Int) (i : Nat) (n : Int) : Nat → Int := fun j => if j = i then n else ns j
def st (w : Int) (s0 : Rd) : Nat → Rd × (Nat → Int)
  | 0 => (s0, fun _ => 0)
  | i + 1 => if bit w i = true ∧ (st w s0 i).1.why = 0 then ((number (st w s0 i).1).2, upd (st w s0 i).2 i (number (st w s0 i).1).1) else st w s0 i
def okKind (k : Int) : Bool := decide (1 ≤ k ∧ k ≤ 30)
def okWhich (w : Int) : Bool := decide (w ≤ 15)
def s2 (l : List Int) : Int × Rd := ((nx1 ⟨l, 0⟩).1, chk (nx1 ⟨l, 0⟩).2 (okKind (nx1 ⟨l, 0⟩).1))
def s4 (l : List Int) : Int × Rd := ((nx1 (s2 l).2).1, chk (nx1 (s2 l).2).2 (okWhich (nx1 (s2 l).2).1))
def get (l : List Int) : Rd × (Nat → Int) := st (s4 l).1 (s4 l).2 4
/-! What is put is got. -/
theorem nx1_cons (b : Int) (t : List Int) : nx1 ⟨b :: t, 0⟩ = (b, ⟨t, 0⟩) := rfl
theorem nx1_nil : nx1 ⟨[], 0⟩ = (0, ⟨[], 14⟩) := rfl
theorem nx1_bad {s : Rd} (h : s.why ≠ 0) : nx1 s = (0, s) := by unfold nx1 nxF; rw [if_neg h]; rfl
theorem chk_ok (s : Rd) : chk s true = s := by unfold chk; simp
theorem chk_bad {s : Rd} (h : s.why ≠ 0) (b : Bool) : chk s b = s := by unfold chk; rw [if_neg (fun e => h e.1)]
theorem chk_no {s : Rd} (h : s.why = 0) : chk s false = ⟨s.l, 13⟩ := by unfold chk; rw [if_pos ⟨h, rfl⟩]
theorem chk_l (s : Rd) (b : Bool) : (chk s b).l = s.l := by unfold chk; split <;> rfl
theorem number_put {n : Int} (h0 : n ≠ 0) (hn : In64 n) (rest : List Int) : number ⟨numL n ++ rest, 0⟩ = (n, ⟨rest, 0⟩) := by
  have hw := width_lo n
  have e1 : numL n ++ rest = (width n : Int) :: (bytesOf n (width n) ++ rest) := by unfold numL; rw [if_neg h0]; rfl
  have e2 : okK (width n : Int) = true := by unfold okK; exact decide_eq_true (by omega)
  have e3 : (nxF (width n) ⟨bytesOf n (width n) ++ rest, 0⟩) = (bytesOf n (width n), ⟨rest, 0⟩) := by
    unfold nxF
    rw [if_pos rfl, if_neg (by simp [bytes_len])]
    simp only [Prod.mk.injEq, Rd.mk.injEq, and_true]
    exact ⟨List.take_left' (bytes_len _ _), List.drop_left' (bytes_len _ _)⟩
  have e4 : dec (bytesOf n (width n)) = n := by
    have := width_fits hn
    obtain ⟨k, hk⟩ : ∃ k, width n = k + 1 := ⟨width n - 1, by omega⟩
    rw [hk] at this ⊢
    exact dec_bytes this
  unfold number
  rw [e1, nx1_cons]
  simp only [e2, chk_ok, if_true]
  unfold numTail
  rw [Int.toNat_natCast, e3, e4]
  have e5 : okN n (width n) = true := by unfold okN; exact decide_eq_true ⟨h0, rfl⟩
  simp only [e5, chk_ok]
theorem bits_of (ns : Nat → Int) (i : Nat) (hi : i < 4) : bit (whichN ns 4) i = decide (ns i ≠ 0) := by
  unfold bit
  rw [Bool.eq_iff_iff, decide_eq_true_iff, decide_eq_true_iff]
  simp only [whichN, pw]
  rcases i with _ | _ | _ | _ | i
  · simp only [pw]; by_cases a : ns 0 = 0 <;> by_cases b : ns 1 = 0 <;> by_cases c : ns 2 = 0 <;> by_cases d : ns 3 = 0 <;> simp [a, b, c, d]
  · simp only [pw]; by_cases a : ns 0 = 0 <;> by_cases b : ns 1 = 0 <;> by_cases c : ns 2 = 0 <;> by_cases d : ns 3 = 0 <;> simp [a, b, c, d]
  · simp only [pw]; by_cases a : ns 0 = 0 <;> by_cases b : ns 1 = 0 <;> by_cases c : ns 2 = 0 <;> by_cases d : ns 3 = 0 <;> simp [a, b, c, d]
  · simp only [pw]; by_cases a : ns 0 = 0 <;> by_cases b : ns 1 = 0 <;> by_cases c : ns 2 = 0 <;> by_cases d : ns 3 = 0 <;> simp [a, b, c, d]
  · omega
theorem which_bd (ns : Nat → Int) : 0 ≤ whichN ns 4 ∧ whichN ns 4 ≤ 15 := by
  simp only [whichN, pw]
  by_cases a : ns 0 = 0 <;> by_cases b : ns 1 = 0 <;> by_cases c : ns 2 = 0 <;> by_cases d : ns 3 = 0 <;> simp [a, b, c, d]
theorem st_put (ns : Nat → Int) (h : ∀ i, i < 4 → In64 (ns i)) (l : Nat → List Int) (hl : ∀ i, i < 4 → l i = numL (ns i) ++ l (i + 1)) :
    ∀ i, i ≤ 4 → st (whichN ns 4) ⟨l 0, 0⟩ i = (⟨l i, 0⟩, fun j => if j < i then ns j else 0) := by
  intro i hi
  induction i with
  | zero => simp [st]
  | succ i ih =>
    have e := ih (by omega)
    unfold st
    rw [e, bits_of ns i (by omega)]
    by_cases h0 : ns i = 0
    · rw [if_neg (by simp [h0]), hl i (by omega)]
      have : numL (ns i) = [] := by unfold numL; rw [if_pos h0]
      rw [this]
      simp only [List.nil_append, Prod.mk.injEq, true_and]
      funext j
      by_cases hj : j < i
      · rw [if_pos hj, if_pos (by omega)]
      · rw [if_neg hj]
        by_cases he : j = i
        · subst he; rw [if_pos (by omega), h0]
        · rw [if_neg (by omega)]
    · rw [if_pos ⟨decide_eq_true h0, rfl⟩]
      simp only [hl i (by omega), number_put h0 (h i (by omega))]
      simp only [Prod.mk.injEq, true_and]
      funext j
      unfold upd
      by_cases he : j = i
      · rw [if_pos he, if_pos (by omega), he]
      · rw [if_neg he]
        show (if j < i then ns j else 0) = _
        by_cases hj : j < i
        · rw [if_pos hj, if_pos (by omega)]
        · rw [if_neg hj, if_neg (by omega)]
theorem get_put (kind : Int) (ns : Nat → Int) (hk : 1 ≤ kind ∧ kind ≤ 30) (h : ∀ i, i < 4 → In64 (ns i)) (more : List Int) :
    s2 (putL kind ns ++ more) = (kind, ⟨whichN ns 4 :: bodyN ns 4 ++ more, 0⟩) ∧ s4 (putL kind ns ++ more) = (whichN ns 4, ⟨bodyN ns 4 ++ more, 0⟩) ∧
    get (putL kind ns ++ more) = (⟨more, 0⟩, fun j => if j < 4 then ns j else 0) := by
  have e : putL kind ns ++ more = kind :: (whichN ns 4 :: bodyN ns 4 ++ more) := by unfold putL; rw [if_pos hk]; rfl
  have e1 : s2 (putL kind ns ++ more) = (kind, ⟨whichN ns 4 :: bodyN ns 4 ++ more, 0⟩) := by
    unfold s2
    rw [e, nx1_cons]
    have : okKind kind = true := decide_eq_true hk
    simp only [this, chk_ok]
  have e2 : s4 (putL kind ns ++ more) = (whichN ns 4, ⟨bodyN ns 4 ++ more, 0⟩) := by
    unfold s4
    rw [e1]
    simp only [List.cons_append, nx1_cons]
    have : okWhich (whichN ns 4) = true := decide_eq_true (which_bd ns).2
    simp only [this, chk_ok]
  refine ⟨e1, e2, ?_⟩
  unfold get
  rw [e2]
  have hb : bodyN ns 4 ++ more = numL (ns 0) ++ (numL (ns 1) ++ (numL (ns 2) ++ (numL (ns 3) ++ more))) := by simp [bodyN]
  rw [hb]
  exact st_put ns h (fun i => match i with | 0 => numL (ns 0) ++ (numL (ns 1) ++ (numL (ns 2) ++ (numL (ns 3) ++ more))) | 1 => numL (ns 1) ++ (numL (ns 2) ++ (numL (ns 3) ++ more)) | 2 => numL (ns 2) ++ (numL (ns 3) ++ more) | 3 => numL (ns 3) ++ more | _ => more)
    (fun i hi => by rcases i with _ | _ | _ | _ | i <;> first | rfl | omega) 4 (Nat.le_refl _)
/-! What is got, put, is its bytes. -/
theorem chk_zero {s : Rd} {b : Bool} (h : (chk s b).why = 0) : s.why = 0 ∧ b = true ∧ chk s b = s := by
  unfold chk at *
  by_cases k : s.why = 0 ∧ b = false
  · rw [if_pos k] at h; cases h
  · rw [if_neg k] at h ⊢
    cases b
    · exact absurd ⟨h, rfl⟩ k
    · exact ⟨h, rfl, rfl⟩
theorem nxF_zero {s : Rd} {m : Nat} (h : (nxF m s).2.why = 0) : s.why = 0 ∧ m ≤ s.l.length ∧ nxF m s = (s.l.take m, ⟨s.l.drop m, 0⟩) := by
  unfold nxF at *
  by_cases k : s.why = 0
  · rw [if_pos k] at h ⊢
    by_cases k2 : s.l.length < m
    · rw [if_pos k2] at h; cases h
    · rw [if_neg k2]; exact ⟨k, by omega, rfl⟩
  · rw [if_neg k] at h; exact absurd h k
theorem nx1_zero {s : Rd} (h : (nx1 s).2.why = 0) : s.why = 0 ∧ ∃ b t, s.l = b :: t ∧ nx1 s = (b, ⟨t, 0⟩) := by
  obtain ⟨h1, h2, h3⟩ := nxF_zero (m := 1) h
  rcases s with ⟨l, w⟩
  cases l with
  | nil => simp at h2
  | cons b t => obtain rfl : w = 0 := h1; exact ⟨rfl, b, t, rfl, rfl⟩
theorem number_zero {s : Rd} (hb : IsB s.l) (h : (number s).2.why = 0) : s.why = 0 ∧ (number s).1 ≠ 0 ∧ In64 (number s).1 ∧ s.l = numL (number s).1 ++ (number s).2.l := by
  unfold number at *
  by_cases k : (chk (nx1 s).2 (okK (nx1 s).1)).why = 0
  · rw [if_pos k] at h ⊢
    obtain ⟨h1, h2, h3⟩ := chk_zero k
    obtain ⟨h4, b, t, h5, h6⟩ := nx1_zero h1
    rw [h3, h6] at h ⊢
    rw [h6] at h2
    simp only at h h2 ⊢
    have hk : 1 ≤ b ∧ b ≤ 8 := of_decide_eq_true h2
    unfold numTail at *
    obtain ⟨g1, g2, g3⟩ := chk_zero h
    obtain ⟨g4, g5, g6⟩ := nxF_zero g1
    simp only [g3]
    rw [g6] at g2 ⊢
    simp only at g2 g5 ⊢
    obtain ⟨g7, g8⟩ : dec (t.take b.toNat) ≠ 0 ∧ width (dec (t.take b.toNat)) = b.toNat := of_decide_eq_true g2
    have ht : IsB (t.take b.toNat) := fun x hx => hb x (h5 ▸ List.mem_cons_of_mem _ (List.mem_of_mem_take hx))
    have hlen : (t.take b.toNat).length = b.toNat := by rw [List.length_take]; omega
    have hpos : 0 < b.toNat := by omega
    obtain ⟨c, u, hcu⟩ : ∃ c u, t.take b.toNat = c :: u := by
      cases hh : t.take b.toNat with
      | nil => rw [hh] at hlen; simp at hlen; omega
      | cons c u => exact ⟨c, u, rfl⟩
    have hu : u.length + 1 = b.toNat := by rw [← hlen, hcu]; rfl
    have hin : In64 (dec (t.take b.toNat)) := by rw [hcu]; exact dec_in64 c u (hcu ▸ ht) (by omega)
    refine ⟨h4, g7, hin, ?_⟩
    rw [h5]
    unfold numL
    rw [if_neg g7, g8, show ((b.toNat : Nat) : Int) = b from by omega]
    have : bytesOf (dec (t.take b.toNat)) b.toNat = t.take b.toNat := by rw [hcu, ← hu]; exact bytes_dec c u (hcu ▸ ht)
    rw [this]
    simp [List.take_append_drop]
  · rw [if_neg k] at h; exact absurd h k
theorem isB_of_append {a b : List Int} (h : IsB (a ++ b)) : IsB b := fun x hx => h x (List.mem_append_right _ hx)
theorem st_zero (w : Int) (s0 : Rd) (hb : IsB s0.l) : ∀ i, i ≤ 4 → (st w s0 i).1.why = 0 → s0.why = 0 ∧ s0.l = bodyN (st w s0 i).2 i ++ (st w s0 i).1.l ∧ IsB (st w s0 i).1.l ∧ (∀ j, j < i → In64 ((st w s0 i).2 j) ∧ ((st w s0 i).2 j ≠ 0 ↔ bit w j = true)) ∧ ∀ j, i ≤ j → (st w s0 i).2 j = 0 := by
  intro i hi
  induction i with
  | zero => intro h; exact ⟨h, by simp [st, bodyN], hb, fun j hj => by omega, fun j hj => rfl⟩
  | succ i ih =>
    intro h
    unfold st at h ⊢
    by_cases k : bit w i = true ∧ (st w s0 i).1.why = 0
    · rw [if_pos k] at h ⊢
      obtain ⟨a1, a2, a3, a4, a5⟩ := ih (by omega) k.2
      simp only at h ⊢
      obtain ⟨b1, b2, b3, b4⟩ := number_zero a3 h
      have hbody : ∀ m, m ≤ i → bodyN (upd (st w s0 i).2 i (number (st w s0 i).1).1) m = bodyN (st w s0 i).2 m := by
        intro m hm
        induction m with
        | zero => rfl
        | succ m ihm =>
          unfold bodyN
          rw [ihm (by omega)]
          congr 2
          unfold upd
          rw [if_neg (by omega)]
      refine ⟨a1, ?_, ?_, ?_, ?_⟩
      · have hu : upd (st w s0 i).2 i (number (st w s0 i).1).1 i = (number (st w s0 i).1).1 := by unfold upd; rw [if_pos rfl]
        rw [a2]
        show _ = (bodyN (upd (st w s0 i).2 i (number (st w s0 i).1).1) i ++ numL (upd (st w s0 i).2 i (number (st w s0 i).1).1 i)) ++ _
        rw [hbody i (Nat.le_refl _), hu, List.append_assoc, ← b4]
      · rw [b4] at a3; exact isB_of_append a3
      · intro j hj
        unfold upd
        by_cases e : j = i
        · rw [if_pos e, e]; exact ⟨b3, fun _ => k.1, fun _ => b2⟩
        · rw [if_neg e]; exact a4 j (by omega)
      · intro j hj
        unfold upd
        rw [if_neg (by omega)]
        exact a5 j (by omega)
    · rw [if_neg k] at h ⊢
      obtain ⟨a1, a2, a3, a4, a5⟩ := ih (by omega) h
      have hbit : bit w i = false := by
        cases hh : bit w i with
        | false => rfl
        | true => exact absurd ⟨hh, h⟩ k
      have h0 : (st w s0 i).2 i = 0 := a5 i (Nat.le_refl _)
      refine ⟨a1, ?_, a3, ?_, fun j hj => a5 j (by omega)⟩
      · unfold bodyN
        have : numL ((st w s0 i).2 i) = [] := by unfold numL; rw [if_pos h0]
        rw [this, List.append_nil]
        exact a2
      · intro j hj
        by_cases e : j = i
        · subst e
          rw [h0, hbit]
          exact ⟨by unfold In64; omega, by simp⟩
        · exact a4 j (by omega)
theorem which_of {ns : Nat → Int} {w : Int} (h0 : 0 ≤ w) (h1 : w ≤ 15) (h : ∀ j, j < 4 → (ns j ≠ 0 ↔ bit w j = true)) : whichN ns 4 = w := by
  have a0 := h 0 (by omega)
  have a1 := h 1 (by omega)
  have a2 := h 2 (by omega)
  have a3 := h 3 (by omega)
  unfold bit at a0 a1 a2 a3
  rw [decide_eq_true_iff] at a0 a1 a2 a3
  simp only [whichN, pw] at *
  by_cases a : ns 0 = 0 <;> by_cases b : ns 1 = 0 <;> by_cases c : ns 2 = 0 <;> by_cases d : ns 3 = 0 <;> simp [a, b, c, d] at * <;> omega
/-- What is got, put, is the bytes that it has. -/
theorem put_get (l : List Int) (hb : IsB l) (h : (get l).1.why = 0) :
    1 ≤ (s2 l).1 ∧ (s2 l).1 ≤ 30 ∧ (∀ j, j < 4 → In64 ((get l).2 j)) ∧ l = putL (s2 l).1 (get l).2 ++ (get l).1.l := by
  unfold get at *
  have hs4b : IsB (s4 l).2.l ∧ IsB (s2 l).2.l := by
    have n1 : ∀ s : Rd, IsB s.l → IsB (nx1 s).2.l := by
      intro s hs
      unfold nx1 nxF
      split
      · split
        · exact hs
        · exact fun x hx => hs x (List.mem_of_mem_drop hx)
      · exact hs
    have e2 : IsB (s2 l).2.l := by unfold s2; rw [chk_l]; exact n1 _ hb
    exact ⟨by unfold s4; rw [chk_l]; exact n1 _ e2, e2⟩
  obtain ⟨a1, a2, a3, a4, a5⟩ := st_zero (s4 l).1 (s4 l).2 hs4b.1 4 (Nat.le_refl _) h
  have q : chk (nx1 (s2 l).2).2 (okWhich (nx1 (s2 l).2).1) = (s4 l).2 := rfl
  obtain ⟨c1, c2, c3⟩ := chk_zero (q ▸ a1)
  obtain ⟨d1, w, t, d2, d3⟩ := nx1_zero c1
  have q2 : chk (nx1 ⟨l, 0⟩).2 (okKind (nx1 ⟨l, 0⟩).1) = (s2 l).2 := rfl
  obtain ⟨f1, f2, f3⟩ := chk_zero (q2 ▸ d1)
  obtain ⟨_, kd, u, g2, g3⟩ := nx1_zero f1
  have g2 : l = kd :: u := g2
  have hkd : (s2 l).1 = kd := by unfold s2; rw [g3]
  rw [g3] at f2
  have hkd2 : 1 ≤ kd ∧ kd ≤ 30 := of_decide_eq_true f2
  have e2 : (s2 l).2 = ⟨u, 0⟩ := by rw [← q2, f3, g3]
  have hu : u = w :: t := by rw [e2] at d2; exact d2
  have hw4 : (s4 l).1 = w := by unfold s4; rw [d3]
  rw [d3] at c2
  have hw15 : w ≤ 15 := of_decide_eq_true c2
  have hw0 : 0 ≤ w := (hb w (by rw [g2, hu]; simp)).1
  have e4 : (s4 l).2 = ⟨t, 0⟩ := by rw [← q, c3, d3]
  rw [hkd]
  refine ⟨hkd2.1, hkd2.2, fun j hj => (a4 j hj).1, ?_⟩
  rw [e4] at a2
  simp only at a2
  have hwh := which_of (ns := (st (s4 l).1 (s4 l).2 4).2) hw0 hw15 (fun j hj => by have := (a4 j hj).2; rwa [hw4] at this ⊢)
  unfold putL
  rw [if_pos hkd2, hwh]
  rw [e4, hw4]
  rw [hw4] at a2
  show l = kd :: w :: (bodyN (st w ⟨t, 0⟩ 4).2 4 ++ (st w ⟨t, 0⟩ 4).1.l)
  rw [← a2, g2, hu]
end Go.Proofs.Ytpefmgmhclbcbaa.WireB
