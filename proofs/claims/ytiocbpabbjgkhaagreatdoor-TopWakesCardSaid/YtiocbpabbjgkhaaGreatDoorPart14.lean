/- Part 14 of the proof: contracts and plain laws, each under the conditions that it names. -/
import Derived.Test.YtiocbpabbjgkhaaGreatDoorPart13
import Derived.Deep.RegionLaw
set_option maxRecDepth 100000
set_option maxHeartbeats 20000000
set_option linter.unusedVariables false
set_option linter.unusedSimpArgs false
namespace Go.Proofs.YtiocbpabbjgkhaaGreatDoor
open Go.RowKit Tryz
variable {w w' : World} {F : Nat → Prop} {p : Nat}
structure PoolAt (w : World) (F : Nat → Prop) (p : Nat) (l : List Int) : Prop where
 head : Blk w p (l.map (Value.int .u8) ++ [Value.int .i64 12]).toArray 294
 fp : F p
 len : l.length = 12
 ok : ∀ x ∈ l, 0 ≤ x ∧ x ≤ 255
theorem PoolAt.ch {F G : Nat → Prop} {l : List Int} (h : PoolAt w F p l) (hc : Ch G w w') (hd : ∀ b, F b → ¬ G b) : PoolAt w' F p l := ⟨h.head.ch hc (hd _ h.fp), h.fp, h.len, h.ok⟩
theorem PoolAt.mono {F G : Nat → Prop} {l : List Int} (h : PoolAt w F p l) (hd : ∀ b, F b → G b) : PoolAt w G p l := ⟨h.head, hd _ h.fp, h.len, h.ok⟩
theorem PoolAt.below {l : List Int} (h : PoolAt w F p l) (hb : Below w.heap.size w w') : PoolAt w' F p l := h.ch (Ch.off hb) (fun _ _ h => h)
theorem PoolAt.cell {l : List Int} (h : PoolAt w F p l) {i : Nat} (hi : i < 12) : w.cell? ⟨p, i, none⟩ = some (.int .u8 (l.getD i 0)) := by
 have hi2 : i < l.length := by rw [h.len]; exact hi
 rw [h.head.cell, List.getElem?_toArray, List.getElem?_append_left (by rw [List.length_map]; exact hi2), List.getElem?_map, getD_some (d := 0) hi2]
 rfl
theorem PoolAt.cc {l : List Int} (h : PoolAt w F p l) : w.cell? ⟨p, 12, none⟩ = some (.int .i64 12) := by
 rw [h.head.cell, List.getElem?_toArray, List.getElem?_append_right (by rw [List.length_map, h.len]; omega), List.length_map, h.len]
 rfl
theorem PoolAt.set {l : List Int} (h : PoolAt w F p l) {i : Nat} (hi : i < 12) (v : Int) (hv : 0 ≤ v ∧ v ≤ 255) : PoolAt (w.setCell ⟨p, i, none⟩ (.int .u8 v)) F p (l.set i v) := by
 refine ⟨?_, h.fp, by simpa using h.len, fun x hx => (List.mem_or_eq_of_mem_set hx).elim (h.ok x) (fun e => e ▸ hv)⟩
 have := h.head.set i (.int .u8 v)
 rw [List.setIfInBounds_toArray, List.set_append_left _ _ (by rw [List.length_map, h.len]; exact hi), ← List.map_set] at this
 exact this
def partP (x : Int) : Bool := decide (x ≠ 0) && decide (x ≠ 255)
def emptyP (x : Int) : Bool := decide (x = 0)
theorem part_any (x : Int) (w : World) : Calls prog 331 #[.int .u8 x] w fun e w' => e = .returned (.bool (partP x)) ∧ w = w' := by
 unfold partP
 by_cases h0 : x = 0
 ·subst h0
  go_enter func331, ntmps331
  go_wp2;go_returns
  exact ⟨rfl, rfl⟩
 ·have h0' : (x != 0) = true := by simpa using h0
  rw [decide_eq_true h0, Bool.true_and];clear h0
  go_enter func331, ntmps331
  go_wp2;go_returns
  refine ⟨?_, rfl⟩
  show Ending.returned (.bool (x != 255)) = _
  congr 2
  rw [Bool.eq_iff_iff]
  simp
theorem empty_any (x : Int) (w : World) : Calls prog 332 #[.int .u8 x] w fun e w' => e = .returned (.bool (emptyP x)) ∧ w = w' := by
 unfold emptyP
 go_enter func332, ntmps332
 go_wp2;go_returns
 refine ⟨?_, rfl⟩
 show Ending.returned (.bool (x == 0)) = _
 congr 2
def findP (is : Int → Bool) : List Int → Int
 | [] => -1
 | x :: t => if is x then 0 else if findP is t < 0 then -1 else findP is t + 1
theorem findP_at {is : Int → Bool} : ∀ {l : List Int} {i : Nat}, i < l.length → (∀ j, j < i → is (l.getD j 0) = false) → is (l.getD i 0) = true → findP is l = i
 | [], i, h, _, _ => by simp at h
 | x :: t, 0, _, _, h => by have h' : is x = true := h; simp [findP, h']
 | x :: t, i + 1, h, hj, hi => by
  have h0 : is x = false := hj 0 (by omega)
  have := findP_at (l := t) (i := i) (by simpa using h) (fun j hj' => by have := hj (j + 1) (by omega); simpa using this) (by simpa using hi)
  simp only [findP, h0, this]
  split
  ·rename_i h; cases h
  ·split
   ·omega
   ·omega
theorem findP_none {is : Int → Bool} : ∀ {l : List Int}, (∀ j, j < l.length → is (l.getD j 0) = false) → findP is l = -1
 | [], _ => rfl
 | x :: t, h => by
  have h0 : is x = false := h 0 (by simp)
  have := findP_none (l := t) (fun j hj => by have := h (j + 1) (by simpa using hj); simpa using this)
  simp [findP, h0, this]
theorem findP_range {is : Int → Bool} : ∀ {l : List Int}, findP is l = -1 ∨ ∃ i : Nat, findP is l = i ∧ i < l.length
 | [] => .inl rfl
 | x :: t => by
  by_cases h : is x = true
  ·exact .inr ⟨0, by simp [findP, h], by simp⟩
  ·rcases findP_range (is := is) (l := t) with e | ⟨i, e, hi⟩
   ·exact .inl (by simp [findP, h, e])
   ·refine .inr ⟨i + 1, ?_, by simpa using hi⟩
    simp only [findP, h, e]
    split
    ·rename_i h; cases h
    ·split <;> omega
theorem pfind_any (is : Int → Bool) (fn : FuncId) (hfn : fn = 331 ∧ is = partP ∨ fn = 332 ∧ is = emptyP) (w : World) {l : List Int} (h : PoolAt w F p l) : Calls prog 330 #[.pointer (some ⟨p, 0, none⟩), .func (.func fn) #[] #[]] w fun e w' => e = .returned (.int .i64 (findP is l)) ∧ w = w' := by
 have HT := Hd h;have cc := h.cc
 have hA : Hid (∀ x, Calls prog fn #[.int .u8 x] w fun e w' => e = .returned (.bool (is x)) ∧ w = w') := Hd (fun x => by
  rcases hfn with ⟨rfl, rfl⟩ | ⟨rfl, rfl⟩
  ·exact part_any x w
  ·exact empty_any x w)
 have hF1 : Hid ((∀ j, j < 12 → is (l.getD j 0) = false) → findP is l = -1) := Hd (fun hh => findP_none (fun j hj => hh j (by rw [h.len] at hj; exact hj)))
 have hF2 : Hid (∀ i : Nat, i < 12 → (∀ j, j < i → is (l.getD j 0) = false) → is (l.getD i 0) = true → findP is l = i) := Hd (fun i hi h1 h2 => findP_at (by rw [h.len]; exact hi) h1 h2)
 generalize findP is l = R at *;clear h
 rcases hfn with ⟨rfl, -⟩ | ⟨rfl, -⟩
 all_goals
  go_enter func330, ntmps330
  go_wp2
  go_loop [10, 5] (fun iv _ => ∃ k : Nat, iv = .int .i64 k ∧ k ≤ 12 ∧ Hid (∀ j, j < k → is (l.getD j 0) = false)) (fun iv _ => 12 - (intOf iv).toNat)
  case atStart => exact ⟨0, rfl, by omega, Hd (fun j hj => by omega)⟩
  case round =>
   obtain ⟨k, rfl, hk, HE⟩ := hrel
   by_cases hlt : k < 12
   ·have ck := HT.out.cell hlt
    have A := Hd (hA.out (l.getD k 0))
    have h1 := Hd (hF2.out k hlt HE.out)
    obtain ⟨x, hx⟩ : ∃ x, x = l.getD k 0 := ⟨_, rfl⟩
    rw [← hx] at ck A h1;replace hx := Hd hx
    obtain ⟨b, hb⟩ : ∃ b, b = is x := ⟨_, rfl⟩
    rw [← hb] at A h1;replace hb := Hd hb
    cases b with
    | true =>
     go_wp2_with fail;refine A.out.mono ?_;rintro e w1 ⟨rfl, rfl⟩;go_wp2;go_returns;rw [h1.out (by first | rfl | trivial)]
     exact ⟨rfl, rfl⟩
    | false =>
     go_wp2_with fail;refine A.out.mono ?_;rintro e w1 ⟨rfl, rfl⟩;go_wp2
     go_round
     case rel =>
      refine ⟨k + 1, by go_num, hlt, Hd (fun j hj => ?_)⟩
      by_cases e : j < k
      ·exact HE.out j e
      ·rw [show j = k by omega, ← hx.out, ← hb.out]
     case measure => simp [intOf]; omega
   ·have : k = 12 := by omega
    subst this;go_wp2;go_returns;rw [hF1.out HE.out]
    exact ⟨rfl, rfl⟩
theorem bits_u8 (op : BinOp) (a b : Int) : 0 ≤ bits op .u8 a b ∧ bits op .u8 a b ≤ 255 := by
 have h : ∀ n : Int, 0 ≤ IntKind.u8.wrap n ∧ IntKind.u8.wrap n ≤ 255 := fun n => by
  simp only [IntKind.wrap, IntKind.bits, IntKind.signed]
  simp
  omega
 unfold bits
 exact h _
def freeBit (x : Int) : Nat := Lib.trailingZeros8 (bits .xor .u8 IntKind.u8.max x).toNat
theorem ctz8_le : ∀ n : Fin 256, Lib.trailingZeros8 n.val ≤ 8 := by decide +kernel
theorem freeBit_le (x : Int) : freeBit x ≤ 8 := by
 have h := bits_u8 .xor IntKind.u8.max x
 exact ctz8_le ⟨(bits .xor .u8 IntKind.u8.max x).toNat, by omega⟩
def poolSet (l : List Int) (i : Nat) : List Int := l.set i (bits .or .u8 (l.getD i 0) (2 ^ freeBit (l.getD i 0) % 256))
def poolPage (l : List Int) : Int := if findP partP l < 0 then findP emptyP l else findP partP l
def poolTake (l : List Int) : List Int × Int × Int :=
 if poolPage l < 0 then (l, 0, 5) else (poolSet l (poolPage l).toNat, (poolPage l) * 8 + freeBit (l.getD (poolPage l).toNat 0) + 1, 0)
theorem ptake_any (w : World) {l : List Int} (h : PoolAt w F p l) : Calls prog 292 #[.pointer (some ⟨p, 0, none⟩)] w fun e w' => e = .returned (.tuple #[.int .i64 (poolTake l).2.1, .int .i64 (poolTake l).2.2]) ∧ PoolAt w' F p (poolTake l).1 ∧ Ch F w w' ∧ w'.heap.size = w.heap.size := by
 have HT := Hd h
 have A := pfind_any partP 331 (.inl ⟨rfl, rfl⟩) w h
 have A2 := pfind_any emptyP 332 (.inr ⟨rfl, rfl⟩) w h
 have hlen := h.len;unfold poolTake
 have fin : ∀ i : Nat, i < 12 → poolPage l = i → ((if poolPage l < 0 then (l, (0 : Int), (5 : Int)) else (poolSet l (poolPage l).toNat, (poolPage l) * 8 + freeBit (l.getD (poolPage l).toNat 0) + 1, 0)) = (l.set i (bits .or .u8 (l.getD i 0) (2 ^ freeBit (l.getD i 0) % 256)), (i : Int) * 8 + freeBit (l.getD i 0) + 1, 0)) := fun i hi e => by
  rw [e, if_neg (by omega), Int.toNat_natCast]
  rfl
 have go : ∀ i : Nat, i < 12 → ∃ x, x = l.getD i 0 := fun i hi => ⟨_, rfl⟩
 rcases findP_range (is := partP) (l := l) with e | ⟨i, e, hi⟩
 ·rcases findP_range (is := emptyP) (l := l) with e2 | ⟨i, e2, hi⟩
  ·have hp : poolPage l = -1 := by unfold poolPage; rw [e, if_pos (by omega), e2]
   rw [hp, if_pos (by omega)];rw [e] at A;rw [e2] at A2;replace A := Hd A;replace A2 := Hd A2;clear h e e2 fin go hp hlen
   go_enter func292, ntmps292
   go_wp2_with fail;refine A.out.mono ?_;rintro e w1 ⟨rfl, rfl⟩;go_wp2_with fail;refine A2.out.mono ?_;rintro e w1 ⟨rfl, rfl⟩;go_wp2;go_returns
   exact ⟨rfl, HT.out, Ch.refl _ _, rfl⟩
  ·rw [hlen] at hi
   have hp : poolPage l = i := by unfold poolPage; rw [e, if_pos (by omega), e2]
   rw [fin i hi hp];rw [e] at A;rw [e2] at A2;replace A := Hd A;replace A2 := Hd A2
   have ci := h.cell hi
   have fi : w.frozen? ⟨p, i, none⟩ = false := h.head.frozen _
   generalize l.getD i 0 = x at *
   have B := Hd (bits_TrailingZeros8 (bits .xor .u8 IntKind.u8.max x) w (bits_u8 _ _ _).1 (bits_u8 _ _ _).2)
   have hk := freeBit_le x
   unfold freeBit at *
   generalize Lib.trailingZeros8 (bits .xor .u8 IntKind.u8.max x).toNat = k at *;clear h e e2 fin go hp hlen
   go_enter func292, ntmps292
   go_wp2_with fail;refine A.out.mono ?_;rintro e w1 ⟨rfl, rfl⟩;go_wp2_with fail;refine A2.out.mono ?_;rintro e w1 ⟨rfl, rfl⟩;go_wp2_with fail;refine B.out.mono ?_;rintro e w1 ⟨rfl, rfl⟩;go_wp2
   go_region
   go_wp2;go_returns
   exact ⟨rfl, (HT.out.set hi _ (bits_u8 .or x (2 ^ k % 256))).ch (Ch.refl (fun _ => False) _).drew (fun _ _ h => h), ((Ch.refl F _).setCell (p := ⟨p, i, none⟩) (fun _ => HT.out.fp) _).drew, by simp⟩
 ·rw [hlen] at hi
  have hp : poolPage l = i := by unfold poolPage; rw [e, if_neg (by omega)]
  rw [fin i hi hp];rw [e] at A;replace A := Hd A
  have ci := h.cell hi
  have fi : w.frozen? ⟨p, i, none⟩ = false := h.head.frozen _
  generalize l.getD i 0 = x at *
  have B := Hd (bits_TrailingZeros8 (bits .xor .u8 IntKind.u8.max x) w (bits_u8 _ _ _).1 (bits_u8 _ _ _).2)
  have hk := freeBit_le x
  unfold freeBit at *
  generalize Lib.trailingZeros8 (bits .xor .u8 IntKind.u8.max x).toNat = k at *;clear h e fin go hp hlen A2
  go_enter func292, ntmps292
  go_wp2_with fail;refine A.out.mono ?_;rintro e w1 ⟨rfl, rfl⟩;go_wp2_with fail;refine B.out.mono ?_;rintro e w1 ⟨rfl, rfl⟩;go_wp2
  go_region
  go_wp2;go_returns
  exact ⟨rfl, (HT.out.set hi _ (bits_u8 .or x (2 ^ k % 256))).ch (Ch.refl (fun _ => False) _).drew (fun _ _ h => h), ((Ch.refl F _).setCell (p := ⟨p, i, none⟩) (fun _ => HT.out.fp) _).drew, by simp⟩
def idIn (id : Int) : Bool := decide (1 ≤ id ∧ id ≤ 96)
def bitOf (id : Int) : Int := 2 ^ ((id - 1) % 8).toNat % 256
def pageOf (id : Int) : Nat := ((id - 1) / 8).toNat
theorem pbit_any (w : World) {l : List Int} (h : PoolAt w F p l) (id : Int) : Calls prog 334 #[.pointer (some ⟨p, 0, none⟩), .int .i64 id] w fun e w' => e = .returned (.tuple #[.int .i64 (if idIn id then (pageOf id : Nat) else 0), .int .u8 (if idIn id then bitOf id else 0)]) ∧ ∃ n, w' = w.drewN n := by
 have cc := h.cc;clear h
 by_cases hin : 1 ≤ id ∧ id ≤ 96
 ·have e : idIn id = true := by unfold idIn; exact decide_eq_true hin
  rw [e, if_pos rfl, if_pos rfl];obtain ⟨h1, h2⟩ := hin
  obtain ⟨d, rfl⟩ : ∃ d : Nat, id = (d : Int) + 1 := ⟨(id - 1).toNat, by omega⟩
  clear e
  have q1 : ((d : Int)).tdiv 8 = ((d / 8 : Nat) : Int) := by rw [Int.tdiv_eq_ediv_of_nonneg (by omega)]; omega
  have q2 : ((d : Int)).tmod 8 = ((d % 8 : Nat) : Int) := by rw [Int.tmod_eq_emod_of_nonneg (by omega)]; omega
  have hm : d % 8 < 8 := Nat.mod_lt _ (by omega)
  have e1 : pageOf ((d : Int) + 1) = d / 8 := by unfold pageOf; omega
  have e2 : bitOf ((d : Int) + 1) = 2 ^ (d % 8) % 256 := by unfold bitOf; congr 2; omega
  rw [e1, e2];clear e1 e2
  go_enter func334, ntmps334
  go_wp2;go_quiet (fail);go_wp2;go_returns
  exact ⟨rfl, _, rfl⟩
 ·have e : idIn id = false := by unfold idIn; exact decide_eq_false hin
  rw [e]
  rcases (by omega : id < 1 ∨ (1 ≤ id ∧ 96 < id)) with h1 | ⟨h1, h2⟩
  all_goals
   clear hin e
   go_enter func334, ntmps334
   go_wp2;go_returns
   exact ⟨rfl, 0, rfl⟩
def poolOut (l : List Int) (id : Int) : Bool := idIn id && decide (bits .and .u8 (l.getD (pageOf id) 0) (bitOf id) ≠ 0)
theorem bitOf_ne {id : Int} (h : idIn id = true) : bitOf id ≠ 0 ∧ pageOf id < 12 := by
 unfold idIn at h
 have h := of_decide_eq_true h
 refine ⟨?_, by unfold pageOf; omega⟩
 unfold bitOf
 have hm : ((id - 1) % 8).toNat < 8 := by omega
 generalize ((id - 1) % 8).toNat = r at *
 rcases (by omega : r = 0 ∨ r = 1 ∨ r = 2 ∨ r = 3 ∨ r = 4 ∨ r = 5 ∨ r = 6 ∨ r = 7) with rfl | rfl | rfl | rfl | rfl | rfl | rfl | rfl <;> decide
theorem pout_any (w : World) {l : List Int} (h : PoolAt w F p l) (id : Int) : Calls prog 293 #[.pointer (some ⟨p, 0, none⟩), .int .i64 id] w fun e w' => e = .returned (.bool (poolOut l id)) ∧ ∃ n, w' = w.drewN n := by
 have A := pbit_any w h id
 unfold poolOut
 cases hin : idIn id with
 | false =>
  rw [hin] at A
  simp only [Bool.false_eq_true, if_false] at A
  replace A := Hd A;clear h hin
  go_enter func293, ntmps293
  go_wp2_with fail;refine A.out.mono ?_;rintro e w1 ⟨rfl, n, rfl⟩;go_wp2;go_returns
  exact ⟨rfl, _, rfl⟩
 | true =>
  obtain ⟨h1, h2⟩ := bitOf_ne hin
  rw [hin] at A
  simp only [if_true] at A
  have ci := h.cell h2
  have hb : (bitOf id != 0) = true := by simpa using h1
  generalize l.getD (pageOf id) 0 = x at *;generalize bitOf id = b at *;generalize pageOf id = i at *;replace A := Hd A
  have hd : Hid (decide (bits .and .u8 x b ≠ 0) = (bits .and .u8 x b != 0)) := Hd (by rw [Bool.eq_iff_iff]; simp)
  rw [hd.out];clear h hin h1
  go_enter func293, ntmps293
  go_wp2_with fail;refine A.out.mono ?_;rintro e w1 ⟨rfl, n, rfl⟩;go_wp2;go_returns
  exact ⟨rfl, _, rfl⟩
def poolGive (l : List Int) (id : Int) : List Int × Int := if poolOut l id then (l.set (pageOf id) (bits .andNot .u8 (l.getD (pageOf id) 0) (bitOf id)), 0) else (l, 4)
theorem pgive_any (w : World) {l : List Int} (h : PoolAt w F p l) (id : Int) : Calls prog 296 #[.pointer (some ⟨p, 0, none⟩), .int .i64 id] w fun e w' => e = .returned (.int .i64 (poolGive l id).2) ∧ PoolAt w' F p (poolGive l id).1 ∧ Ch F w w' ∧ w'.heap.size = w.heap.size := by
 have HT := Hd h;have A := Hd (pout_any w h id)
 have B := fun n => (pbit_any (w.drewN n) (h.below (belowN w n)) id)
 unfold poolGive
 cases ho : poolOut l id with
 | false =>
  rw [ho] at A;clear h B ho
  go_enter func296, ntmps296
  go_wp2_with fail;refine A.out.mono ?_;rintro e w1 ⟨rfl, n, rfl⟩;go_wp2;go_returns
  exact ⟨rfl, HT.out.below (belowN _ _), (Ch.refl _ _).drewN _, rfl⟩
 | true =>
  rw [ho] at A
  have hin : idIn id = true := by unfold poolOut at ho; cases hh : idIn id <;> simp [hh] at ho ⊢
  obtain ⟨h1, h2⟩ := bitOf_ne hin
  rw [hin] at B
  simp only [if_true] at B ⊢
  have ci := h.cell h2
  have fi : w.frozen? ⟨p, pageOf id, none⟩ = false := h.head.frozen _
  generalize l.getD (pageOf id) 0 = x at *;generalize bitOf id = b at *;generalize pageOf id = i at *
  have B := fun n => Hd (B n)
  clear h hin h1 ho
  go_enter func296, ntmps296
  go_wp2_with fail;refine A.out.mono ?_;rintro e w1 ⟨rfl, n, rfl⟩;go_wp2_with fail;refine (B n).out.mono ?_;rintro e w1 ⟨rfl, n2, rfl⟩;go_wp2
  go_region
  go_wp2;go_returns
  exact ⟨rfl, ((HT.out.below (belowN w (n + n2))).set h2 _ (bits_u8 .andNot x b)).ch (Ch.refl (fun _ => False) _).drew (fun _ _ h => h), (((Ch.refl F _).drewN (n + n2)).setCell (p := ⟨p, i, none⟩) (fun _ => HT.out.fp) _).drew, by simp⟩
theorem pool_new (w : World) : Calls prog 116 #[.int .i64 12] w fun e w' => (∃ p, e = .returned (.tuple #[.pointer (some ⟨p, 0, none⟩), .int .i64 0]) ∧ PoolAt w' (Plus w w' (fun _ => False)) p (List.replicate 12 0)) ∧ Below w.heap.size w w' := by
 go_enter func116, ntmps116
 go_wp2;go_returns
 exact ⟨⟨w.heap.size, rfl, Blk.at _ _ rfl, .inr ⟨Nat.le_refl _, by simp⟩, by simp, fun x hx => by have := List.eq_of_mem_replicate hx; omega⟩, (Below.refl _ _).alloc (Nat.le_refl _) _⟩
structure Stash where
 pool : List Int
 kept : List (List Int)
structure StashAtQ (w : World) (F : Nat → Prop) (p pp r : Nat) (sv : Nat → Value) (c : Nat → Nat) (s : Stash) : Prop where
 head : Blk w p #[.pointer (some ⟨pp, 0, none⟩), .int .i64 12, .slice (some ⟨r, 0, none⟩) s.kept.length s.kept.length] 231
 pool : PoolAt w (Col F c 0) pp s.pool
 row : Blk w r ((List.range s.kept.length).map sv).toArray 65
 fr : Col F c 1 r
 fp : Col F c 3 p
 lt : ∀ b, F b → b < w.heap.size
 ls : ∀ i, i < s.kept.length → IntsAt w (Col F c (10 + i)) (sv i) (s.kept.getD i [])
 n1 : 1 ≤ s.kept.length
 n64 : s.kept.length ≤ 64
 few : ∀ i, i < s.kept.length → (s.kept.getD i []).length ≤ 4
def StashAt (w : World) (F : Nat → Prop) (p : Nat) (s : Stash) : Prop := ∃ pp r sv c, StashAtQ w F p pp r sv c s
theorem StashAtQ.at {p pp r : Nat} {sv : Nat → Value} {c : Nat → Nat} {s : Stash} (h : StashAtQ w F p pp r sv c s) : StashAt w F p s := ⟨pp, r, sv, c, h⟩
theorem StashAtQ.ch {F G : Nat → Prop} {p pp r : Nat} {sv : Nat → Value} {c : Nat → Nat} {s : Stash} (h : StashAtQ w F p pp r sv c s) (hc : Ch G w w') (hd : ∀ b, F b → ¬ G b) : StashAtQ w' F p pp r sv c s :=
 ⟨h.head.ch hc (hd _ h.fp.1), h.pool.ch hc (fun b hb => hd b hb.1), h.row.ch hc (hd _ h.fr.1), h.fr, h.fp, fun b hb => Nat.lt_of_lt_of_le (h.lt b hb) hc.size, fun i hi => (h.ls i hi).ch hc (fun b hb => hd b hb.1), h.n1, h.n64, h.few⟩
theorem StashAt.ch {F G : Nat → Prop} {s : Stash} (h : StashAt w F p s) (hc : Ch G w w') (hd : ∀ b, F b → ¬ G b) : StashAt w' F p s := by
 obtain ⟨pp, r, sv, c, h⟩ := h
 exact (h.ch hc hd).at
theorem StashAt.below {s : Stash} (h : StashAt w F p s) (hb : Below w.heap.size w w') : StashAt w' F p s := h.ch (Ch.off hb) (fun _ _ h => h)
theorem StashAt.ltF {s : Stash} (h : StashAt w F p s) : ∀ b, F b → b < w.heap.size := by
 obtain ⟨pp, r, sv, c, h⟩ := h
 exact h.lt
theorem StashAt.mono {F G : Nat → Prop} {s : Stash} (h : StashAt w F p s) (hd : ∀ b, F b → G b) (hG : ∀ b, G b → b < w.heap.size) : StashAt w G p s := by
 obtain ⟨pp, r, sv, c, h⟩ := h
 exact ⟨pp, r, sv, c, h.head, h.pool.mono (fun b hb => ⟨hd b hb.1, hb.2⟩), h.row, ⟨hd _ h.fr.1, h.fr.2⟩, ⟨hd _ h.fp.1, h.fp.2⟩, hG, fun i hi => (h.ls i hi).mono (fun b hb => ⟨hd b hb.1, hb.2⟩), h.n1, h.n64, h.few⟩
theorem StashAtQ.mono {F G : Nat → Prop} {p pp r : Nat} {sv : Nat → Value} {c : Nat → Nat} {s : Stash} (h : StashAtQ w F p pp r sv c s) (hd : ∀ b, F b → G b) (hG : ∀ b, G b → b < w.heap.size) : StashAtQ w G p pp r sv c s :=
 ⟨h.head, h.pool.mono (fun b hb => ⟨hd b hb.1, hb.2⟩), h.row, ⟨hd _ h.fr.1, h.fr.2⟩, ⟨hd _ h.fp.1, h.fp.2⟩, hG, fun i hi => (h.ls i hi).mono (fun b hb => ⟨hd b hb.1, hb.2⟩), h.n1, h.n64, h.few⟩
theorem StashAtQ.cells {p pp r : Nat} {sv : Nat → Value} {c : Nat → Nat} {s : Stash} (h : StashAtQ w F p pp r sv c s) : w.cell? ⟨p, 0, none⟩ = some (.pointer (some ⟨pp, 0, none⟩)) ∧ w.cell? ⟨p, 2, none⟩ = some (.slice (some ⟨r, 0, none⟩) s.kept.length s.kept.length) := ⟨h.head.cell 0, h.head.cell 2⟩
theorem StashAtQ.kc {p pp r : Nat} {sv : Nat → Value} {c : Nat → Nat} {s : Stash} (h : StashAtQ w F p pp r sv c s) {i : Nat} (hi : i < s.kept.length) : w.cell? ⟨r, i, none⟩ = some (sv i) := by
 rw [h.row.cell, List.getElem?_toArray, List.getElem?_map, List.getElem?_range hi]
 rfl
theorem StashAtQ.turnPool {p pp r : Nat} {sv : Nat → Value} {c : Nat → Nat} {s : Stash} (h : StashAtQ w F p pp r sv c s) {l : List Int} (hp : PoolAt w' (Col F c 0) pp l) (hc : Ch (Col F c 0) w w') : StashAtQ w' F p pp r sv c ⟨l, s.kept⟩ :=
 ⟨h.head.ch hc (Col.apart (by omega) _ h.fp), hp, h.row.ch hc (Col.apart (by omega) _ h.fr), h.fr, h.fp, fun b hb => Nat.lt_of_lt_of_le (h.lt b hb) hc.size, fun i hi => (h.ls i hi).ch hc (Col.apart (by omega)), h.n1, h.n64, h.few⟩
theorem StashAtQ.set {p pp r : Nat} {sv : Nat → Value} {c : Nat → Nat} {s : Stash} (h : StashAtQ w F p pp r sv c s) {i : Nat} (hi : i < s.kept.length) {v : Value} {l : List Int} (hl : IntsAt w' (Plus w w' (Col F c (10 + i))) v l) (hc : Ch (Col F c (10 + i)) w w') (hle : l.length ≤ 4) :
  StashAtQ (w'.setCell ⟨r, i, none⟩ v) (Plus w w' F) p pp r (fun j => if j = i then v else sv j) (recol w c (10 + i)) ⟨s.pool, s.kept.set i l⟩ := by
 have hlt := h.row.lt
 have hp : ∀ j b, j ≠ 1 → Col F c j b → b ≠ r := fun j b hj hb e => by subst e; have := hb.2.symm.trans h.fr.2; omega
 have hc2 : Ch (fun b => Col F c (10 + i) b ∨ b = r) w (w'.setCell ⟨r, i, none⟩ v) := (hc.mono (fun _ _ h => .inl h)).setCell (p := ⟨r, i, none⟩) (fun _ => .inr rfl) v
 have ap : ∀ j, j ≠ 1 → j ≠ 10 + i → ∀ b, Col F c j b → ¬ (Col F c (10 + i) b ∨ b = r) := fun j h0 hj b hb e => e.elim (Col.apart hj b hb) (hp j b h0 hb)
 have hset := (h.row.ch hc (Col.apart (by omega) _ h.fr)).set i v
 refine ⟨?_, (h.pool.ch hc2 (ap 0 (by omega) (by omega))).mono (Col.old h.lt), ?_, Col.old h.lt _ h.fr, Col.old h.lt _ h.fp, fun b hb => by simpa using Plus.lt h.lt hc.size b hb, fun j hj => ?_, by simpa using h.n1, by simpa using h.n64, fun j hj => ?_⟩
 ·simp only [List.length_set]
  exact h.head.ch hc2 (ap 3 (by omega) (by omega) _ h.fp)
 ·simp only [List.length_set]
  rw [List.setIfInBounds_toArray] at hset
  have e : ((List.range s.kept.length).map sv).set i v = (List.range s.kept.length).map (fun j => if j = i then v else sv j) := by
   apply List.ext_getElem?
   intro k
   by_cases hk : k < s.kept.length
   ·rw [List.getElem?_set]
    simp only [List.getElem?_map, List.getElem?_range hk, Option.map_some, List.length_map, List.length_range]
    by_cases e : i = k
    ·subst e; simp [hi]
    ·simp [e, Ne.symm e]
   ·rw [List.getElem?_eq_none (by simp; omega), List.getElem?_eq_none (by simp; omega)]
  rw [← e]
  exact hset
 ·have hj' : j < s.kept.length := by simpa using hj
  by_cases e : j = i
  ·subst e
   show IntsAt _ _ _ ((s.kept.set j l).getD j [])
   rw [getD_set_same hi]
   simp only [if_true]
   exact (hl.ch ((Ch.refl (fun b => b = r) w').put j v) (fun b hb e => by have e : b = r := e; exact hb.elim (fun h1 => hp _ b (by omega) h1 e) (fun h1 => by omega))).mono (Col.new h.lt)
  ·show IntsAt _ _ _ ((s.kept.set i l).getD j [])
   rw [getD_set_other e]
   simp only [e, if_false]
   exact ((h.ls j hj').ch hc2 (ap (10 + j) (by omega) (by omega))).mono (Col.old h.lt)
 ·have hj' : j < s.kept.length := by simpa using hj
  by_cases e : j = i
  ·subst e
   show ((s.kept.set j l).getD j []).length ≤ 4
   rw [getD_set_same hi]
   exact hle
  ·show ((s.kept.set i l).getD j []).length ≤ 4
   rw [getD_set_other e]
   exact h.few j hj'
theorem hmay_any (w : World) {s : Stash} (h : StashAt w F p s) (cpu : Int) : Calls prog 234 #[.pointer (some ⟨p, 0, none⟩), .int .i64 cpu] w fun e w' => e = .returned (.int .i64 (mayF s.kept.length cpu)) ∧ w = w' := by
 obtain ⟨pp, r, sv, c, h⟩ := h;obtain ⟨c0, c2⟩ := h.cells;clear h;generalize s.kept.length = n at *
 rcases may_cases n cpu with ⟨h1, e⟩ | ⟨h1, h2, e⟩ | ⟨i, rfl, h2, e⟩
 all_goals
  rw [e];clear e
  go_enter func234, ntmps234
  go_wp2;go_returns
  exact ⟨rfl, rfl⟩
theorem hcont_any {v : Value} {l : List Int} (x : Int) (w : World) (b : Nat) (h : IntsAt w F v l) (hb : w.cell? ⟨b, 0, none⟩ = some (.int .i64 x)) : Calls prog 295 #[v, .pointer (some ⟨b, 0, none⟩)] w fun e w' => e = .returned (.bool (l.contains x)) ∧ w = w' := by
 have A := Hd (ints_contains w h x);clear h;generalize l.contains x = y at *
 go_enter func295, ntmps295
 go_wp2_with fail;refine A.out.mono ?_;rintro e w1 ⟨rfl, rfl⟩;go_wp2;go_returns
 exact ⟨rfl, rfl⟩
def keptHas (s : Stash) (id : Int) : Bool := s.kept.any (fun l => l.contains id)
def findK (id : Int) : List (List Int) → Int
 | [] => -1
 | x :: t => if x.contains id then 0 else if findK id t < 0 then -1 else findK id t + 1
theorem findK_at {id : Int} : ∀ {l : List (List Int)} {i : Nat}, i < l.length → (∀ j, j < i → (l.getD j []).contains id = false) → (l.getD i []).contains id = true → findK id l = i
 | [], i, h, _, _ => by simp at h
 | x :: t, 0, _, _, h => by have h' : x.contains id = true := h; unfold findK; rw [if_pos h']; rfl
 | x :: t, i + 1, h, hj, hi => by
  have h0 : x.contains id = false := hj 0 (by omega)
  have := findK_at (l := t) (i := i) (by simpa using h) (fun j hj' => hj (j + 1) (by omega)) hi
  unfold findK
  rw [if_neg (by rw [h0]; simp), this, if_neg (by omega)]
  omega
theorem findK_none {id : Int} : ∀ {l : List (List Int)}, (∀ j, j < l.length → (l.getD j []).contains id = false) → findK id l = -1
 | [], _ => rfl
 | x :: t, h => by
  have h0 : x.contains id = false := h 0 (by simp)
  have := findK_none (l := t) (fun j hj => h (j + 1) (by simpa using hj))
  unfold findK
  rw [if_neg (by rw [h0]; simp), this, if_pos (by omega)]
theorem findK_any {id : Int} : ∀ {l : List (List Int)}, (l.any (fun l => l.contains id)) = decide (0 ≤ findK id l)
 | [] => rfl
 | x :: t => by
  have ih := findK_any (id := id) (l := t)
  unfold findK;rw [List.any_cons]
  by_cases h : x.contains id = true
  ·rw [h, if_pos rfl]; simp
  ·have h' : x.contains id = false := by simpa using h
   rw [h', if_neg (by simp), Bool.false_or, ih, decide_eq_decide]
   split <;> omega
theorem hindex_any (w : World) {p pp r : Nat} {sv : Nat → Value} {c : Nat → Nat} {s : Stash} (h : StashAtQ w F p pp r sv c s) (id : Int) (b : Nat) (hb : w.cell? ⟨b, 0, none⟩ = some (.int .i64 id)) : Calls prog 335 #[.slice (some ⟨r, 0, none⟩) s.kept.length s.kept.length, .func (.func 295) #[] #[.pointer (some ⟨b, 0, none⟩)]] w fun e w' => e = .returned (.int .i64 (findK id s.kept)) ∧ w = w' := by
 have hA : Hid (∀ i, i < s.kept.length → w.cell? ⟨r, i, none⟩ = some (sv i) ∧ Calls prog 295 #[sv i, .pointer (some ⟨b, 0, none⟩)] w fun e w' => e = .returned (.bool ((s.kept.getD i []).contains id)) ∧ w = w') := Hd (fun i hi => ⟨h.kc hi, hcont_any id w b (h.ls i hi) hb⟩)
 have hF1 : Hid ((∀ j, j < s.kept.length → (s.kept.getD j []).contains id = false) → findK id s.kept = -1) := Hd (fun hh => findK_none hh)
 have hF2 : Hid (∀ i : Nat, i < s.kept.length → (∀ j, j < i → (s.kept.getD j []).contains id = false) → (s.kept.getD i []).contains id = true → findK id s.kept = i) := Hd (fun i hi h1 h2 => findK_at hi h1 h2)
 have hform : Hid (∀ i, i < s.kept.length → ∃ b n cap, sv i = .slice b n cap) := Hd (fun i hi => by obtain ⟨b, cap, e⟩ := RowAt.form (h.ls i hi); exact ⟨b, _, cap, e⟩)
 have n64 := h.n64
 obtain ⟨g, hg⟩ : ∃ g : Nat → Bool, g = fun j => (s.kept.getD j []).contains id := ⟨_, rfl⟩
 have hg' : ∀ j, (s.kept.getD j []).contains id = g j := fun j => by rw [hg]
 simp only [hg'] at hA hF1 hF2
 generalize findK id s.kept = R at *;generalize s.kept.length = n at *;clear h hg hg' hb
 go_enter func335, ntmps335
 go_wp2
 go_loop [8, 5] (fun iv _ => ∃ k : Nat, iv = .int .i64 k ∧ k ≤ n ∧ Hid (∀ j, j < k → g j = false)) (fun iv _ => n - (intOf iv).toNat)
 case atStart => exact ⟨0, rfl, by omega, Hd (fun j hj => by omega)⟩
 case round =>
  obtain ⟨k, rfl, hk, HE⟩ := hrel
  by_cases hlt : k < n
  ·obtain ⟨ck, A⟩ := hA.out k hlt
   obtain ⟨b1, n1, cp1, e1⟩ := hform.out k hlt
   rw [e1] at ck A;replace A := Hd A;have h1 := Hd (hF2.out k hlt HE.out)
   obtain ⟨y, hy⟩ : ∃ y, y = g k := ⟨_, rfl⟩
   rw [← hy] at A h1;replace hy := Hd hy;clear e1
   cases y with
   | true =>
    go_wp2_with fail;refine A.out.mono ?_;rintro e w1 ⟨rfl, rfl⟩;go_wp2;go_returns;rw [h1.out (by first | rfl | trivial)]
    exact ⟨rfl, rfl⟩
   | false =>
    go_wp2_with fail;refine A.out.mono ?_;rintro e w1 ⟨rfl, rfl⟩;go_wp2
    go_round
    case rel =>
     refine ⟨k + 1, by go_num, hlt, Hd (fun j hj => ?_)⟩
     by_cases e : j < k
     ·exact HE.out j e
     ·rw [show j = k by omega, ← hy.out]
    case measure => simp [intOf]; omega
  ·have : k = n := by omega
   subst this;go_wp2;go_returns;rw [hF1.out HE.out]
   exact ⟨rfl, rfl⟩
theorem hcontf_any (w : World) {p pp r : Nat} {sv : Nat → Value} {c : Nat → Nat} {s : Stash} (h : StashAtQ w F p pp r sv c s) (id : Int) (b : Nat) (hb : w.cell? ⟨b, 0, none⟩ = some (.int .i64 id)) : Calls prog 294 #[.slice (some ⟨r, 0, none⟩) s.kept.length s.kept.length, .func (.func 295) #[] #[.pointer (some ⟨b, 0, none⟩)]] w fun e w' => e = .returned (.bool (keptHas s id)) ∧ w = w' := by
 have A := Hd (hindex_any w h id b hb);unfold keptHas;rw [findK_any];generalize findK id s.kept = R at *;generalize s.kept.length = n at *;clear h
 go_enter func294, ntmps294
 go_wp2_with fail;refine A.out.mono ?_;rintro e w1 ⟨rfl, rfl⟩;go_wp2;go_returns
 exact ⟨rfl, rfl⟩
theorem quiet_dir {P : Program} {f : FuncId} {args : Array Value} {W : World} {n : Nat} {v : Value} (h : Calls P f args (W.drewN n) fun e w' => e = .returned v ∧ ∃ k, w' = (W.drewN n).drewN k) : Calls P f args (W.drewN n) fun e w' => e = .returned v ∧ ∃ m, w' = W.drewN m :=
 h.mono fun _ _ ⟨he, m, hm⟩ => ⟨he, n + m, by rw [hm, World.drewN_drewN]⟩
def stashHas (s : Stash) (id : Int) : Bool := poolOut s.pool id && !keptHas s id
theorem hhas_any (w : World) {s : Stash} (h : StashAt w F p s) (id : Int) : Calls prog 236 #[.pointer (some ⟨p, 0, none⟩), .int .i64 id] w fun e w' => e = .returned (.bool (stashHas s id)) ∧ Below w.heap.size w w' := by
 have hb0 : Below w.heap.size w (w.alloc (.cells #[.int .i64 id] 3)) := (Below.refl _ _).alloc (Nat.le_refl _) _
 replace h := h.below hb0
 obtain ⟨pp, r, sv, c, h⟩ := h;obtain ⟨c0, c2⟩ := h.cells
 have A := fun n => Hd (pout_any ((w.alloc (.cells #[.int .i64 id] 3)).drewN n) (h.pool.below (belowN _ n)) id)
 have B := fun n => Hd (hcontf_any ((w.alloc (.cells #[.int .i64 id] 3)).drewN n) (h.ch ((Ch.refl (fun _ => False) _).drewN n) (fun _ _ h => h)) id w.heap.size (cell_at1 _ _ rfl))
 unfold stashHas;generalize s.kept.length = n at *;generalize poolOut s.pool id = x at *;generalize keptHas s id = y at *
 have hfin : Hid (∀ n, Below w.heap.size w ((w.alloc (.cells #[.int .i64 id] 3)).drewN n)) := Hd (fun n => hb0.trans ((belowN _ n).mono hb0.size))
 have c3 : (w.alloc (.cells #[.int .i64 id] 3)).cell? ⟨w.heap.size, 0, none⟩ = some (.int .i64 id) := cell_at1 _ _ rfl
 clear h hb0
 obtain ⟨W, hW⟩ : ∃ W, W = w.alloc (.cells #[.int .i64 id] 3) := ⟨_, rfl⟩
 rw [← hW] at c0 c2 c3 A B hfin;replace hW := Hd hW
 cases x
 all_goals cases y
 all_goals
  go_enter func236, ntmps236
  go_wp2;rw [← hW.out]
  go_quiet ((first | (go_at_call 293; exact quiet_dir (A _).out) | (go_at_call 294; exact quiet_left (B _).out)))
  go_wp2;go_returns
  exact ⟨rfl, hfin.out _⟩
theorem step_app1 {ops : Array Oper} {o : Oper} {A : Act} {w : World} {K : Act → World → Prop} {Q : Exit → Act → World → Prop} {E : Prop} (hgd : o.guard = none) (s x : Operand)
    (ho : o.op = .call { callee := .builtin .append, args := #[s, x], argTypes := #[65, 65] }) {F : Nat → Prop} {v : Value} {l : List Int} (h : IntsAt w F v l) {b c : Nat} {n : Int} (hs : A.eval s = v) (hx : A.eval x = .slice (some ⟨b, 0, none⟩) 1 c) (hn : w.cell? ⟨b, 0, none⟩ = some (.int .i64 n)) (hl : l.length ≤ 1099511627776)
    (hK : ∀ v' w', IntsAt w' (Plus w w' F) v' (l ++ [n]) → Ch F w w' → K (A.put o.dst v') w') : if Region.wanted o (yielded ops A.tmps) = true then Oper.wp prog o A w K Q else E := by
  have hw : Region.wanted o (yielded ops A.tmps) = true := by simp [Region.wanted, hgd]
  rw [if_pos hw]
  obtain ⟨i, hi, hz, hs1, hb1⟩ := info_parts info3
  obtain ⟨v', w', hr, h2, h3⟩ := run_app (P := prog) (ty := o.type) underlying65 hi hz hs1 hb1 rfl (by omega) h (a := ⟨b, 0, none⟩) (m := 1) (c := c) (news := [.int .i64 n]) rfl (fun j u hj => by
    cases j with
    | zero => have : u = .int .i64 n := by simpa using hj.symm
              subst this
              exact hn
    | succ j => simp at hj) (by simp [Value.oneCell']) (by omega) (by unfold maxLen; omega) (by omega)
  unfold Oper.wp execOp
  simp only [ho, resolve, invoke, builtin, Sem.run_bind, Sem.run_pure, Result.andThen_ok, List.map_toArray, List.map_cons, List.map_nil, hs, hx, hr]
  refine hK v' w' ?_ h3
  unfold IntsAt
  simpa using h2
def fillOne (s : Stash) (i : Nat) : Stash := if (poolTake s.pool).2.2 = 0 then ⟨(poolTake s.pool).1, s.kept.set i (s.kept.getD i [] ++ [(poolTake s.pool).2.1])⟩ else ⟨(poolTake s.pool).1, s.kept⟩
def fillN (s : Stash) (i : Nat) : Nat → Stash
 | 0 => s
 | k + 1 => fillOne (fillN s i k) i
theorem fillN_len (s : Stash) (i : Nat) : ∀ k, (fillN s i k).kept.length = s.kept.length
 | 0 => rfl
 | k + 1 => by
  have := fillN_len s i k
  simp only [fillN, fillOne]
  split <;> simp [this]
theorem fillN_few (s : Stash) (i : Nat) (hi : i < s.kept.length) (h : s.kept.getD i [] = []) : ∀ k, ((fillN s i k).kept.getD i []).length ≤ k
 | 0 => by
  show (s.kept.getD i []).length ≤ 0
  rw [h]
  exact Nat.le_refl _
 | k + 1 => by
  have := fillN_few s i hi h k
  simp only [fillN, fillOne]
  split
  ·rw [getD_set_same (by rw [fillN_len]; exact hi), List.length_append]
   simp only [List.length_cons, List.length_nil]
   omega
  ·show ((fillN s i k).kept.getD i []).length ≤ k + 1
   omega
def stashFill (s : Stash) (i : Nat) : Stash := if s.kept.getD i [] ≠ [] then s else fillN s i 2
theorem hfill_any (w : World) {s : Stash} (h : StashAt w F p s) (i : Nat) (hi : i < s.kept.length) : Calls prog 235 #[.pointer (some ⟨p, 0, none⟩), .int .i64 i] w fun e w' => e = .returned (.tuple #[]) ∧ StashAt w' (Plus w w' F) p (stashFill s i) ∧ Ch F w w' := by
 have HT := Hd h;have hltw := Hd h.ltF;obtain ⟨pp, r, sv, c, h⟩ := h;obtain ⟨c0, c2⟩ := h.cells
 have ck := h.kc hi
 obtain ⟨b0, cp0, hsv⟩ := RowAt.form (h.ls i hi)
 rw [hsv] at ck;unfold stashFill
 obtain ⟨n, hn⟩ : ∃ n, n = s.kept.length := ⟨_, rfl⟩
 by_cases h0 : s.kept.getD i [] = []
 ·rw [if_neg (by simpa using h0)]
  rw [h0] at ck
  simp only [List.length_nil] at ck
  have hfew := Hd (fillN_few s i hi h0);have H0 := Hd h
  have n64 : n ≤ 64 := by have := h.n64; omega
  have hin : i < n := by omega
  rw [← hn] at c2;replace hn := Hd hn;replace hi := Hd hi;clear h hsv h0
  go_enter func235, ntmps235
  go_wp2
  go_loopw [15, 4, 5] (fun iv _ _ wr => ∃ k : Nat, iv = .int .i64 k ∧ k ≤ 2 ∧ Hid (∃ sv c, StashAtQ wr (Plus w wr F) p pp r sv c (fillN s i k)) ∧ Hid (Ch F w wr)) (fun iv _ _ _ => 2 - (intOf iv).toNat)
  case atStart => exact ⟨0, rfl, by omega, Hd ⟨sv, c, by rw [Plus.self]; exact H0.out⟩, Hd (Ch.refl _ _)⟩
  case round =>
   clear c0 c2 ck H0;obtain ⟨k, rfl, hk, H, HC⟩ := hrel
   by_cases hlt : k < 2
   ·obtain ⟨sv, c, X⟩ := H.out
    have hik : i < (fillN s i k).kept.length := by rw [fillN_len]; exact hi.out
    have A := ptake_any wr X.pool
    obtain ⟨c0, c2⟩ := X.cells
    have hst : Hid (fillN s i (k + 1) = fillOne (fillN s i k) i) := Hd rfl
    have hfk := Hd (hfew.out k)
    obtain ⟨sk, hsk⟩ : ∃ sk, sk = fillN s i k := ⟨_, rfl⟩
    rw [← hsk] at A X hik hst hfk
    have hlk : Hid (sk.kept.length = n) := Hd (by rw [hsk, fillN_len, hn.out])
    unfold fillOne at hst
    obtain ⟨T, hT⟩ : ∃ T, T = poolTake sk.pool := ⟨_, rfl⟩
    rw [← hT] at A hst;obtain ⟨l2, id, why⟩ := T;dsimp only at A hst;have hX := Hd X;replace A := Hd A;replace hik := Hd hik;clear X hT hsk c2 H;go_wp2_with fail;refine A.out.mono ?_;rintro e w2 ⟨rfl, h1, h2, h3⟩
    have X2 := hX.out.turnPool h1 h2
    replace h2 := Hd h2;replace h3 := Hd h3;clear h1 c0
    by_cases hw : why = 0
    ·subst hw
     rw [if_pos rfl] at hst;obtain ⟨d0, d2⟩ := X2.cells
     have dk := X2.kc hik.out
     have dI := X2.ls i hik.out
     obtain ⟨q, hq⟩ : ∃ q, q = sk.kept.getD i [] := ⟨_, rfl⟩
     dsimp only at dI d2;rw [← hq] at dI hst hfk;replace hq := Hd hq
     obtain ⟨b1, cp1, hsv1⟩ := RowAt.form dI
     rw [hsv1] at dk dI;rw [hlk.out] at d2
     have hql : q.length ≤ 1099511627776 := by have := hfk.out; omega
     obtain ⟨Qx, hQx⟩ : ∃ Qx, Qx = q ++ [id] := ⟨_, rfl⟩
     have hQl : Hid (Qx.length ≤ 4) := Hd (by rw [hQx, List.length_append]; simp only [List.length_cons, List.length_nil]; have := hfk.out; omega)
     rw [← hQx] at hst;replace hQx := Hd hQx
     have dI2 := IntsAt.ch dI (((Ch.refl (fun _ => False) w2).alloc (.cells #[.int .i64 id] 3)).drew) (fun _ _ h => h)
     have X3 := X2.ch (((Ch.refl (fun _ => False) w2).alloc (.cells #[.int .i64 id] 3)).drew) (fun _ _ h => h)
     obtain ⟨e0, e2⟩ := X3.cells
     have ek := X3.kc hik.out
     rw [hsv1] at ek;dsimp only at e2;rw [hlk.out] at e2
     have e2' : (w2.alloc (.cells #[.int .i64 id] 3)).cell? ⟨p, 2, none⟩ = some (.slice (some ⟨r, 0, none⟩) n n) := e2
     have ek' : (w2.alloc (.cells #[.int .i64 id] 3)).cell? ⟨r, i, none⟩ = some (.slice b1 q.length cp1) := ek
     replace dI2 := Hd dI2;replace X3 := Hd X3;replace X2 := Hd X2;clear dI hsv1;go_wp2
     go_region_law (refine step_app1 rfl _ _ rfl dI2.out rfl rfl (cell_at1 _ _ rfl) hql ?_; intro v' w3 h5 h6; rw [← hQx.out] at h5; have g2 := keepch h6 e2 (Col.apart (by omega) _ X3.out.fp); have gk := keepch h6 ek (Col.apart (by omega) _ X3.out.fr); obtain ⟨bv, cv, hv'⟩ := RowAt.form h5; subst hv'; have gf := (X3.out.row.ch h6 (Col.apart (by omega) _ X3.out.fr)).frozen i)
     all_goals
      have Y := X3.out.set hik.out h5 h6 hQl.out
      have hs6 := h6.size
      simp only [World.size_drew, World.size_alloc] at hs6
      have hcw := HC.out.size
      have Z := Y.mono (G := Plus w (w3.setCell ⟨r, i, none⟩ (.slice bv Qx.length cv)) F) (fun b hb => (hb.elim (fun e => e.elim .inl (fun e => .inr ⟨e.1, by have := h3.out; have := e.2; have := hs6; show b < (w3.setCell _ _).heap.size; rw [World.size_setCell]; omega⟩)) (fun e => .inr ⟨by have h7 : (w2.alloc (.cells #[.int .i64 id] 3)).drew.heap.size ≤ b := e.1; have := h3.out; rw [World.size_drew, World.size_alloc] at h7; omega, by show b < (w3.setCell _ _).heap.size; rw [World.size_setCell]; exact e.2⟩) : Plus w (w3.setCell ⟨r, i, none⟩ (.slice bv Qx.length cv)) F b)) (fun b hb => hb.elim (fun e => by have := hltw.out b e; have := h3.out; rw [World.size_setCell]; omega) (fun e => e.2))
      have HC2 := (((HC.out.then h2.out (fun b hb e => e.1.elim (fun e => e) (fun e => by have := e.1; omega))).alloc (.cells #[.int .i64 id] 3)).drew.then h6 (fun b hb e => (e.1.elim (fun e => e) (fun e => by have := e.1; omega) : F b))).setCell (p := ⟨r, i, none⟩) (fun hb => (X3.out.fr.1.elim (fun e => e) (fun e => by have := e.1; have hb' : r < w.heap.size := hb; omega) : F r)) (.slice bv Qx.length cv)
      replace Z := Hd Z;replace HC2 := Hd HC2;clear Y h5 h6 hs6 g2 gk gf;go_wp2;go_roundw
      case rel => exact ⟨k + 1, by go_num, hlt, Hd ⟨_, _, by rw [hst.out]; exact Z.out⟩, HC2⟩
      case measure => simp [intOf]; omega
    ·rw [if_neg hw] at hst
     have hw' : (why == 0) = false := by simpa using hw
     replace X2 := Hd X2;clear hw;go_wp2;go_roundw
     case rel =>
      refine ⟨k + 1, by go_num, hlt, Hd ⟨sv, c, ?_⟩, Hd (HC.out.then h2.out (fun b hb e => e.1.elim (fun e => e) (fun e => by have := e.1; omega)))⟩
      rw [hst.out]
      have e : Plus w w2 F = Plus w wr F := by unfold Plus; rw [h3.out]
      rw [e]
      exact X2.out
     case measure => simp [intOf]; omega
   ·have : k = 2 := by omega
    subst this;go_wp2;go_end0;obtain ⟨sv, c, X⟩ := H.out
    exact ⟨rfl, X.at, HC.out⟩
 ·rw [if_pos (by simpa using h0)]
  have hpos : 0 < (s.kept.getD i []).length := List.length_pos_iff.2 h0
  have hin : i < n := by omega
  have n64 := h.n64;rw [← hn] at c2 n64;generalize s.kept.getD i [] = q at *;generalize q.length = m at *;clear h hsv h0 hn hi
  go_enter func235, ntmps235
  go_wp2;go_returns
  exact ⟨rfl, by rw [Plus.self]; exact HT.out, Ch.refl _ _⟩
theorem IntsAt.cut {g m cap : Nat} {l : List Int} (h : IntsAt w F (.slice (some ⟨g, 0, none⟩) m cap) l) (hpos : 0 < l.length) (k : Nat) (hk : k ≤ l.length) : IntsAt w F (.slice (some ⟨g, 0, none⟩) k k) (l.take k) := by
 obtain ⟨h1, base, cap', h2, h3, h4, h5⟩ := h
 cases h2
 rcases h5 with ⟨h5, _⟩ | ⟨g', cs, h6, hb, hcs, ht, hF⟩
 ·omega
 ·cases h6
  have hl : (l.take k).length = k := by rw [List.length_take]; omega
  have := RowAt.of_blk (w := w) (F := F) (E := 3) (sz := 1) (g := g) (n := k) (cap := k) (cs := cs) (xs := (l.take k).map (Value.int .i64)) hb hF (by rw [List.length_map, hl]; omega) (Nat.le_refl _) (by omega) (by omega) (by
   rw [List.map_take, ← ht, List.take_take]
   congr 1
   omega)
  unfold IntsAt;rw [hl]
  exact this
def stashAlloc (s : Stash) (cpu : Int) : Stash × Int × Int :=
 if mayF s.kept.length cpu ≠ 0 then (s, 0, 3) else
 if (stashFill s cpu.toNat).kept.getD cpu.toNat [] = [] then (stashFill s cpu.toNat, 0, 5) else
 (⟨(stashFill s cpu.toNat).pool, (stashFill s cpu.toNat).kept.set cpu.toNat (((stashFill s cpu.toNat).kept.getD cpu.toNat []).take (((stashFill s cpu.toNat).kept.getD cpu.toNat []).length - 1))⟩,
  ((stashFill s cpu.toNat).kept.getD cpu.toNat []).getD (((stashFill s cpu.toNat).kept.getD cpu.toNat []).length - 1) 0, 0)
theorem stashFill_len (s : Stash) (i : Nat) : (stashFill s i).kept.length = s.kept.length := by
 unfold stashFill
 split
 ·rfl
 ·exact fillN_len s i 2
theorem halloc_any (w : World) {s : Stash} (h : StashAt w F p s) (cpu : Int) : Calls prog 158 #[.pointer (some ⟨p, 0, none⟩), .int .i64 cpu] w fun e w' => e = .returned (.tuple #[.int .i64 (stashAlloc s cpu).2.1, .int .i64 (stashAlloc s cpu).2.2]) ∧ StashAt w' (Plus w w' F) p (stashAlloc s cpu).1 ∧ Ch F w w' := by
 have HT := Hd h;have A := Hd (hmay_any w h cpu);have hltw := Hd h.ltF;unfold stashAlloc
 by_cases hm : mayF s.kept.length cpu = 0
 ·obtain ⟨i, rfl, hi⟩ := may_yes hm
  rw [hm] at A
  rw [if_neg (by simp [hm])]
  simp only [Int.toNat_natCast]
  have B := Hd (hfill_any w h i hi);have hl1 := Hd (stashFill_len s i)
  obtain ⟨s1, hs1⟩ : ∃ s1, s1 = stashFill s i := ⟨_, rfl⟩
  rw [← hs1] at B hl1 ⊢
  obtain ⟨q, hq⟩ : ∃ q, q = s1.kept.getD i [] := ⟨_, rfl⟩
  rw [← hq]
  have hi1 : Hid (i < s1.kept.length) := Hd (by rw [hl1.out]; exact hi)
  obtain ⟨n, hn⟩ : ∃ n, n = s1.kept.length := ⟨_, rfl⟩
  have hin : i < n := by rw [hn]; exact hi1.out
  replace hn := Hd hn;replace hq := Hd hq;clear h hm hs1 hi
  by_cases h0 : q = []
  ·subst h0
   rw [if_pos rfl]
   go_enter func158, ntmps158
   go_wp2_with fail;refine A.out.mono ?_;rintro e w1 ⟨rfl, rfl⟩;go_wp2_with fail;refine B.out.mono ?_;rintro e w1 ⟨rfl, h1, h2⟩;obtain ⟨pp, r, sv, c, X⟩ := h1;obtain ⟨c0, c2⟩ := X.cells
   have ck := X.kc hi1.out
   obtain ⟨b0, cp0, hsv⟩ := RowAt.form (X.ls i hi1.out)
   rw [hsv, ← hq.out] at ck
   simp only [List.length_nil] at ck
   rw [← hn.out] at c2
   have n64 : n ≤ 64 := by have := X.n64; have := hn.out; omega
   replace X := Hd X;replace h2 := Hd h2;clear hsv;go_wp2;go_returns
   exact ⟨rfl, X.out.at, h2.out⟩
  ·rw [if_neg h0]
   have hpos : 0 < q.length := List.length_pos_iff.2 h0
   obtain ⟨m, hm⟩ : ∃ m, m = q.length - 1 := ⟨_, rfl⟩
   rw [← hm]
   obtain ⟨id, hid⟩ : ∃ id, id = q.getD m 0 := ⟨_, rfl⟩
   rw [← hid]
   have hql : q.length = m + 1 := by omega
   replace hql := Hd hql;replace hid := Hd hid
   obtain ⟨R, hR⟩ : ∃ R : Stash, R = ⟨s1.pool, s1.kept.set i (q.take m)⟩ := ⟨_, rfl⟩
   rw [← hR];replace hR := Hd hR;clear h0 hm hpos
   go_enter func158, ntmps158
   go_wp2_with fail;refine A.out.mono ?_;rintro e w1 ⟨rfl, rfl⟩;go_wp2_with fail;refine B.out.mono ?_;rintro e w1 ⟨rfl, h1, h2⟩;obtain ⟨pp, r, sv, c, X⟩ := h1;obtain ⟨c0, c2⟩ := X.cells
   have ck := X.kc hi1.out
   have dI := X.ls i hi1.out
   rw [← hq.out] at dI
   obtain ⟨g, cap, hsv, hcap, -, hFg, hlg, hcell, -⟩ := dI.open (by rw [hql.out]; omega)
   have hm0 := hcell m (by rw [hql.out]; omega)
   rw [← hid.out] at hm0;rw [hsv] at ck dI;rw [hql.out] at ck hcap;rw [← hn.out] at c2
   have n64 : n ≤ 64 := by have := X.n64; have := hn.out; omega
   have hm4 : m + 1 ≤ 4 := by have := X.few i hi1.out; rw [← hq.out, hql.out] at this; exact this
   have fk : w1.frozen? ⟨r, i, none⟩ = false := X.row.frozen _
   have hcut := dI.cut (by rw [hql.out]; omega) m (by rw [hql.out]; omega)
   have Y := X.set hi1.out (v := .slice (some ⟨g, 0, none⟩) m m) (l := q.take m) (w' := w1) (hcut.mono (fun b hb => .inl hb)) (Ch.refl _ _) (by rw [List.length_take]; omega)
   rw [Plus.self] at Y
   have hsub : ((m : Int) + 1 - 1) = m := by omega
   replace X := Hd X;replace Y := Hd Y;replace h2 := Hd h2;clear hsv hcell dI hcut;go_wp2
   go_region
   go_wp2;go_returns;rw [hR.out]
   refine ⟨rfl, (Y.out.ch (Ch.refl (fun _ => False) _).drew (fun _ _ h => h)).at.mono (fun b hb => hb.imp (fun e => e) (fun e => ⟨e.1, by simpa using e.2⟩)) (fun b hb => hb.elim (fun e => by have := hltw.out b e; have := h2.out.size; simp; omega) (fun e => e.2)), (h2.out.setCell (p := ⟨r, i, none⟩) (fun hb => X.out.fr.1.elim (fun e => e) (fun e => by have := e.1; have hb' : r < w.heap.size := hb; omega)) _).drew⟩
 ·have e := may_no hm
  rw [if_pos hm];rw [e] at A;clear h hm e
  go_enter func158, ntmps158
  go_wp2_with fail;refine A.out.mono ?_;rintro e w1 ⟨rfl, rfl⟩;go_wp2;go_returns
  exact ⟨rfl, by rw [Plus.self]; exact HT.out, Ch.refl _ _⟩
theorem iclone_off (w : World) {g cap : Nat} {l : List Int} (h : IntsAt w F (.slice (some ⟨g, 0, none⟩) l.length cap) l) (hpos : 0 < l.length) (m n c : Nat) (hm : m ≤ l.length) (hn : n = l.length - m) (hl8 : l.length ≤ 1000) : Calls prog 252 #[.slice (some ⟨g, m, none⟩) n c] w fun e w' => (∃ v', e = .returned v' ∧ IntsAt w' (New w) v' (l.drop m)) ∧ Below w.heap.size w w' := by
 obtain ⟨g', cap', h0, -, -, -, -, hc, -⟩ := h.open hpos
 cases h0
 by_cases h1 : m = l.length
 ·subst h1
  have hn0 : n = 0 := by omega
  subst hn0;rw [List.drop_length]
  exact (slices_Clone_int_zero ⟨g, l.length, none⟩ c w).mono fun e w' ⟨v', he, ho, _, hb⟩ => ⟨⟨v', he, ints_of_owns (l := []) ho⟩, hb⟩
 ·have hlen : (l.drop m).length = n := by rw [List.length_drop]; omega
  have := slices_Clone_int g m n c (l.drop m) w (by omega) (by omega) (fun j hj => by
   rw [hc (m + j) (by omega)]
   congr 2
   rw [List.getD_eq_getElem?_getD, List.getD_eq_getElem?_getD, List.getElem?_drop])
  rw [List.take_of_length_le (by omega)] at this
  exact this.mono fun e w' ⟨v', he, ho, _, hb⟩ => ⟨⟨v', he, ints_of_owns ho⟩, hb⟩
theorem iclone_tail (w : World) {g cap : Nat} {l : List Int} (h : IntsAt w F (.slice (some ⟨g, 0, none⟩) l.length cap) l) (hpos : 0 < l.length) (hcap : l.length ≤ cap) (m n c : Nat) (hm : m ≤ l.length) (hn : n = l.length - m) (hl8 : l.length ≤ 1000) : Calls prog 252 #[.slice (if cap = m then some ⟨g, 0, none⟩ else some ⟨g, m, none⟩) n c] w fun e w' => (∃ v', e = .returned v' ∧ IntsAt w' (New w) v' (l.drop m)) ∧ Below w.heap.size w w' := by
 split
 ·have h1 : m = l.length := by omega
  subst h1
  have hn0 : n = 0 := by omega
  subst hn0;rw [List.drop_length]
  exact (slices_Clone_int_zero ⟨g, 0, none⟩ c w).mono fun e w' ⟨v', he, ho, _, hb⟩ => ⟨⟨v', he, ints_of_owns (l := []) ho⟩, hb⟩
 ·exact iclone_off w h hpos m n c hm hn hl8
def giveAll (pool : List Int) (l : List Int) : List Int := l.foldl (fun p d => (poolGive p d).1) pool
def stashBack (s : Stash) (i k : Nat) : Stash := ⟨giveAll s.pool ((s.kept.getD i []).take k), s.kept.set i ((s.kept.getD i []).drop k)⟩
theorem giveAll_step (pool l : List Int) (k : Nat) (hk : k < l.length) : giveAll pool (l.take (k + 1)) = (poolGive (giveAll pool (l.take k)) (l.getD k 0)).1 := by
 have hg : l[k]? = some (l.getD k 0) := getD_some hk
 unfold giveAll;rw [List.take_add_one, hg, List.foldl_append]
 rfl
theorem hback_any (w : World) {s : Stash} (h : StashAt w F p s) (i : Nat) (hi : i < s.kept.length) (m : Nat) (hm : m ≤ (s.kept.getD i []).length) (hpos : 0 < (s.kept.getD i []).length) : Calls prog 237 #[.pointer (some ⟨p, 0, none⟩), .int .i64 i, .int .i64 m] w fun e w' => e = .returned (.tuple #[]) ∧ StashAt w' (Plus w w' F) p (stashBack s i m) ∧ Ch F w w' := by
 have hltw := Hd h.ltF;obtain ⟨pp, r, sv, c, h⟩ := h;obtain ⟨c0, c2⟩ := h.cells
 have ck := h.kc hi
 have dI := h.ls i hi
 have hfew := h.few i hi
 have n64 := h.n64;unfold stashBack
 obtain ⟨q, hq⟩ : ∃ q, q = s.kept.getD i [] := ⟨_, rfl⟩
 rw [← hq] at dI hm hpos hfew ⊢
 obtain ⟨g, cap, hsv, hcap, hcm, hFg, hlg, hcell, -⟩ := dI.open hpos
 rw [hsv] at ck dI
 obtain ⟨n, hn⟩ : ∃ n, n = s.kept.length := ⟨_, rfl⟩
 rw [← hn] at c2 n64
 have hin : i < n := by omega
 obtain ⟨L, hL⟩ : ∃ L, L = q.length := ⟨_, rfl⟩
 rw [← hL] at ck hcap hm hpos hfew
 have hcap9 : cap ≤ 9223372036854775807 := by unfold maxLen at hcm; omega
 replace hcell := Hd hcell;replace hL := Hd hL;have hX0 := Hd h;replace hn := Hd hn;replace hi := Hd hi
 obtain ⟨QD, hQD⟩ : ∃ QD, QD = q.drop m := ⟨_, rfl⟩
 obtain ⟨GA, hGA⟩ : ∃ GA, GA = giveAll s.pool (q.take m) := ⟨_, rfl⟩
 rw [← hQD, ← hGA];replace hQD := Hd hQD;replace hGA := Hd hGA
 have hQl : Hid (QD.length ≤ 4) := Hd (by rw [hQD.out, List.length_drop, ← hL.out]; omega)
 have dI' := Hd dI;clear h hq hcm hFg dI
 go_enter func237, ntmps237
 go_wp2
 go_loopw [18, 7] (fun iv _ wr => ∃ k : Nat, iv = .int .i64 k ∧ k ≤ m ∧ Hid (StashAtQ wr F p pp r sv c ⟨giveAll s.pool (q.take k), s.kept⟩) ∧ Hid (Ch (Col F c 0) w wr) ∧ Hid (wr.heap.size = w.heap.size)) (fun iv _ _ => m - (intOf iv).toNat)
 case atStart => exact ⟨0, rfl, by omega, Hd hX0.out, Hd (Ch.refl _ _), Hd rfl⟩
 case round =>
  clear c0 c2 ck;obtain ⟨k, rfl, hk, H, HC, HS⟩ := hrel;obtain ⟨c0, c2⟩ := H.out.cells
  have ck := H.out.kc hi.out
  rw [hsv] at ck;dsimp only at c2;rw [← hn.out] at c2;rw [← hL.out] at ck
  by_cases hlt : k < m
  ·have hk0 := hcell.out k (by rw [← hL.out]; omega)
   have hk1 := keepch HC.out hk0 (fun e => by have := e.2; have := (dI'.out.open (by rw [← hL.out]; omega)); obtain ⟨g', c', e2, -, -, e3, -⟩ := this; cases e2; have := e3.2; omega)
   obtain ⟨d, hd⟩ : ∃ d, d = q.getD k 0 := ⟨_, rfl⟩
   have A := pgive_any wr H.out.pool d
   have hst := giveAll_step s.pool q k (by rw [← hL.out]; omega)
   rw [← hd] at hst hk1;dsimp only at A
   obtain ⟨u, hu⟩ : ∃ u, u = poolGive (giveAll s.pool (q.take k)) d := ⟨_, rfl⟩
   rw [← hu] at A hst;replace A := Hd A;replace hst := Hd hst;clear hd hu hk0;go_wp2_with fail;refine A.out.mono ?_;rintro e w2 ⟨rfl, h1, h2, h3⟩;have X2 := Hd (H.out.turnPool h1 h2);replace h2 := Hd h2;replace h3 := Hd h3;clear h1;go_wp2;go_roundw
   case rel => exact ⟨k + 1, by go_num, hlt, Hd (by rw [hst.out]; exact X2.out), Hd (HC.out.trans h2.out), Hd (h3.out.trans HS.out)⟩
   case measure => simp [intOf]; omega
  ·have : k = m := by omega
   subst this
   have hI2 := H.out.ls i hi.out
   have D := fun c' => iclone_tail wr.drew (g := g) (cap := cap) (l := q) (F := Col F c (10 + i)) ((dI'.out.ch HC.out (Col.apart (by omega))).ch (Ch.off (Below.refl _ _).drew) (fun _ _ h => h)) (by rw [← hL.out]; exact hpos) (by rw [← hL.out]; exact hcap) k (L - k) c' (by rw [← hL.out]; exact hm) (by rw [← hL.out]) (by rw [← hL.out]; omega)
   rw [← hQD.out] at D;have hX := Hd H.out;rw [← hGA.out] at hX
   have fk : wr.frozen? ⟨r, i, none⟩ = false := H.out.row.frozen _
   have hpr : Hid (∀ w2 : World, Below wr.heap.size wr w2 → w2.cell? ⟨p, 2, none⟩ = some (.slice (some ⟨r, 0, none⟩) n n) ∧ w2.cell? ⟨r, i, none⟩ = some (.slice (some ⟨g, 0, none⟩) L cap) ∧ w2.frozen? ⟨r, i, none⟩ = false) := Hd (fun w2 hb => ⟨keepcell hb c2, keepcell hb ck, (H.out.row.ch (Ch.off hb) (fun h => h)).frozen _⟩)
   have hfin : Hid (∀ (w2 : World) (bv : Option Addr) (cv : Nat), IntsAt w2 (New wr.drew) (.slice bv QD.length cv) QD → Below wr.heap.size wr w2 → StashAt (w2.setCell ⟨r, i, none⟩ (.slice bv QD.length cv)) (Plus w (w2.setCell ⟨r, i, none⟩ (.slice bv QD.length cv)) F) p ⟨GA, s.kept.set i QD⟩ ∧ Ch F w (w2.setCell ⟨r, i, none⟩ (.slice bv QD.length cv))) := Hd (fun w2 bv cv h5 hb => by
    have hlt2 : ∀ b, New wr.drew b → (.slice bv QD.length cv : Value) = .slice bv QD.length cv → True := fun _ _ _ => trivial
    obtain ⟨h1, base, cap', h2, h3, h4, h5'⟩ := h5
    cases h2
    have h5'' : IntsAt w2 (Plus wr w2 (Col F c (10 + i))) (.slice bv QD.length cv) QD := by
     refine ⟨h1, bv, cv, rfl, h3, h4, h5'.imp id ?_⟩
     rintro ⟨g', cs, e1, e2, e3, e4, e5⟩
     exact ⟨g', cs, e1, e2, e3, e4, .inr ⟨e5, e2.lt⟩⟩
    have Y := hX.out.set hi.out h5'' (Ch.of_below hb) hQl.out
    have hs := hb.size;have hss := HS.out
    refine ⟨Y.at.mono (fun b hb' => ?_) (fun b hb' => ?_), ?_⟩
    ·exact hb'.imp (fun e => e) (fun e => ⟨by have := e.1; omega, by rw [World.size_setCell]; exact e.2⟩)
    ·exact hb'.elim (fun e => by have := hltw.out b e; rw [World.size_setCell]; omega) (fun e => e.2)
    ·exact ((HC.out.mono (fun _ _ e => e.1)).trans (Ch.of_below hb)).setCell (p := ⟨r, i, none⟩) (fun _ => hX.out.fr.1) _)
   by_cases hck : cap = k
   ·have hLk : L = k := by omega
    rw [if_pos hck] at D;have D1 := D 0;rw [hLk, Nat.sub_self] at D1;replace D1 := Hd D1;rw [hck, hLk] at ck hpr;clear D hck hLk hcap hcap9 hL hcell dI' hsv;go_wp2
    go_region_with (go_at_call 252; refine D1.out.mono ?_; rintro e w2 ⟨⟨v', rfl, h5⟩, hb⟩; obtain ⟨bv, cv, hv'⟩ := RowAt.form h5; subst hv'; have hb2 := (Below.refl wr.heap.size wr).drew.trans hb; obtain ⟨e2, ek, ef⟩ := hpr.out w2 hb2)
    all_goals
     have hf := Hd (hfin.out w2 bv cv h5 hb2);clear h5 hb hb2 e2 ek ef;go_wp2;go_end0
     exact ⟨rfl, hf.out⟩
   ·rw [if_neg hck] at D
    have D1 := D (cap - k)
    replace D1 := Hd D1
    have hcast : ((L : Int) - k) = ((L - k : Nat) : Int) := by omega
    clear D hcell dI' hsv;go_wp2
    go_region_with (go_at_call 252; refine D1.out.mono ?_; rintro e w2 ⟨⟨v', rfl, h5⟩, hb⟩; obtain ⟨bv, cv, hv'⟩ := RowAt.form h5; subst hv'; have hb2 := (Below.refl wr.heap.size wr).drew.trans hb; obtain ⟨e2, ek, ef⟩ := hpr.out w2 hb2)
    all_goals
     have hf := Hd (hfin.out w2 bv cv h5 hb2);clear h5 hb hb2 e2 ek ef;go_wp2;go_end0
     exact ⟨rfl, hf.out⟩
end Go.Proofs.YtiocbpabbjgkhaaGreatDoor
