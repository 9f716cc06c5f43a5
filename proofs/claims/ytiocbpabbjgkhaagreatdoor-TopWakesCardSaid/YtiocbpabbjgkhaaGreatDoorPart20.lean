/- Part 20 of the proof: contracts and plain laws, each under the conditions that it names. -/
import Derived.Test.YtiocbpabbjgkhaaGreatDoorPart19
import Derived.Lib.ItoaNum
set_option maxRecDepth 100000
set_option maxHeartbeats 20000000
set_option linter.unusedVariables false
set_option linter.unusedSimpArgs false
namespace Go.Proofs.YtiocbpabbjgkhaaGreatDoor
open Go.RowKit Tryz
variable {w w' : World} {F : Nat → Prop} {p : Nat} {f : KF} {k : K}
theorem xor_zero {a b : Nat} : a ^^^ b = 0 ↔ a = b := by
 constructor
 ·intro h
  refine Nat.eq_of_testBit_eq fun i => ?_
  have := congrArg (fun x => x.testBit i) h
  simpa using this
 ·rintro rfl
  exact Nat.xor_self a
theorem xor_div {a b k : Nat} : a / 2 ^ k = b / 2 ^ k ↔ a ^^^ b < 2 ^ k := by
 rw [← Nat.shiftRight_eq_div_pow, ← Nat.shiftRight_eq_div_pow, ← xor_zero, ← Nat.shiftRight_xor_distrib, Nat.shiftRight_eq_div_pow, Nat.div_eq_zero_iff]
 have := Nat.two_pow_pos k
 omega
theorem div_up {a b k j : Nat} (h : a / 2 ^ k = b / 2 ^ k) (hj : k ≤ j) : a / 2 ^ j = b / 2 ^ j := by
 rw [xor_div] at h ⊢
 exact Nat.lt_of_lt_of_le h (Nat.pow_le_pow_right (by omega) hj)
theorem level_spec {a b : Nat} (ha : a ≤ 1152921504606846976) (hb : b ≤ 1152921504606846976) (hne : a ≠ b) :
  a / 2 ^ (3 * levelF a b) ≠ b / 2 ^ (3 * levelF a b) ∧ a / 2 ^ (3 * (levelF a b + 1)) = b / 2 ^ (3 * (levelF a b + 1)) := by
 have hx : a ^^^ b < 2 ^ 64 := Nat.xor_lt_two_pow (by omega) (by omega)
 have h0 : a ^^^ b ≠ 0 := fun e => hne (xor_zero.1 e)
 obtain ⟨h1, h2, h3⟩ := Lib.bitLenAux_bounds 64 (a ^^^ b) hx h0
 unfold levelF Lib.bitLen;generalize Lib.bitLenAux 64 (a ^^^ b) = n at *
 have hl := Nat.div_add_mod (n - 1) 3
 have hm := Nat.mod_lt (n - 1) (show 3 > 0 by omega)
 generalize (n - 1) / 3 = l at *
 constructor
 ·rw [Ne, xor_div, Nat.not_lt]
  exact Nat.le_trans (Nat.pow_le_pow_right (by omega) (by omega)) h2
 ·rw [xor_div]
  exact Nat.lt_of_lt_of_le h3 (Nat.pow_le_pow_right (by omega) (by omega))
theorem level_uniq {a b l : Nat} (ha : a ≤ 1152921504606846976) (hb : b ≤ 1152921504606846976) (h1 : a / 2 ^ (3 * l) ≠ b / 2 ^ (3 * l)) (h2 : a / 2 ^ (3 * (l + 1)) = b / 2 ^ (3 * (l + 1))) : levelF a b = l := by
 have hne : a ≠ b := fun e => h1 (by rw [e])
 obtain ⟨g1, g2⟩ := level_spec ha hb hne
 refine Nat.le_antisymm (Nat.le_of_not_lt fun hlt => ?_) (Nat.le_of_not_lt fun hlt => ?_)
 ·exact g1 (div_up h2 (by omega))
 ·exact h1 (div_up g2 (by omega))
theorem div_step (a l : Nat) : a / 2 ^ (3 * l) = 8 * (a / 2 ^ (3 * (l + 1))) + digitF a l := by
 unfold digitF;rw [show 3 * (l + 1) = 3 * l + 3 by omega, Nat.pow_add, ← Nat.div_div_eq_div_mul]
 have := Nat.div_add_mod (a / 2 ^ (3 * l)) 8
 omega
theorem digit_lt (a l : Nat) : digitF a l < 8 := Nat.mod_lt _ (by omega)
theorem lt_of_div {a b k : Nat} (h : a / 2 ^ k < b / 2 ^ k) : a < b := Nat.lt_of_not_le fun e => by have := Nat.div_le_div_right (c := 2 ^ k) e; omega
theorem level_keep {now t due : Nat} (hn : now < t) (ht : t ≤ 1152921504606846976) (hd : now < due) (hd2 : due ≤ 1152921504606846976)
  (h : 8 * levelF t now + digitF t (levelF t now) < 8 * levelF due now + digitF due (levelF due now)) : t < due ∧ levelF due t = levelF due now := by
 obtain ⟨a1, a2⟩ := level_spec ht (by omega) (show t ≠ now by omega)
 obtain ⟨b1, b2⟩ := level_spec hd2 (show now ≤ _ by omega) (show due ≠ now by omega)
 have d1 := digit_lt t (levelF t now)
 have d2 := digit_lt due (levelF due now)
 generalize levelF t now = L at *;generalize levelF due now = l at *
 have hc : t / 2 ^ (3 * l) < due / 2 ^ (3 * l) ∧ due / 2 ^ (3 * (l + 1)) = t / 2 ^ (3 * (l + 1)) := by
  by_cases e : l = L
  ·subst e
   have e1 : due / 2 ^ (3 * (l + 1)) = t / 2 ^ (3 * (l + 1)) := b2.trans a2.symm
   refine ⟨?_, e1⟩
   rw [div_step t l, div_step due l, e1]
   omega
  ·have hlt : L < l := by omega
   have e1 : t / 2 ^ (3 * l) = now / 2 ^ (3 * l) := div_up a2 (by omega)
   refine ⟨?_, b2.trans (div_up e1 (by omega)).symm⟩
   have := Nat.div_le_div_right (c := 2 ^ (3 * l)) (Nat.le_of_lt hd)
   omega
 exact ⟨lt_of_div hc.1, level_uniq hd2 ht (by omega) hc.2⟩
theorem flat_add (L : List (List Int)) (i : Nat) (d : Int) (hi : i < L.length) : (L.set i (L.getD i [] ++ [d])).flatten.Perm (L.flatten ++ [d]) := by
 have h := flatten_set L i (L.getD i [] ++ [d]) hi
 refine (List.perm_append_right_iff (L.getD i [])).1 (h.trans ?_)
 rw [List.append_assoc]
 exact List.Perm.append_left _ List.perm_append_comm
theorem flat_drop {L : List (List Int)} {i : Nat} {d : Int} (hi : i < L.length) (hd : d ∈ L.getD i []) : (L.set i ((L.getD i []).erase d)).flatten.Perm (L.flatten.erase d) := by
 have h := flatten_set L i ((L.getD i []).erase d) hi
 have e : (L.getD i []).Perm (d :: (L.getD i []).erase d) := List.perm_cons_erase hd
 have h2 : ((L.set i ((L.getD i []).erase d)).flatten ++ (d :: (L.getD i []).erase d)).Perm (L.flatten ++ (L.getD i []).erase d) := ((List.Perm.append_left _ e).symm).trans h
 have h3 : (d :: (L.set i ((L.getD i []).erase d)).flatten).Perm L.flatten := by
  refine (List.perm_append_right_iff ((L.getD i []).erase d)).1 ?_
  refine List.Perm.trans ?_ h2
  rw [List.cons_append]
  exact (List.perm_middle).symm
 have h4 := h3.erase d
 rw [List.erase_cons_head] at h4
 exact h4
structure WOk (s : Wheel) : Prop where
 len : s.ls.length = 169
 now : s.now ≤ 1152921504606846976
 rng : ∀ x ∈ s.dues, 0 ≤ x.2 ∧ x.2 ≤ 1152921504606846976
 nd : (s.dues.map Prod.fst).Nodup
 perm : s.ls.flatten.Perm (s.dues.map Prod.fst)
 at' : ∀ i d, d ∈ s.ls.getD i [] → listIx s.now ((mget s.dues d).getD 0) = i
theorem WOk.due {s : Wheel} (h : WOk s) (d : Int) : 0 ≤ (mget s.dues d).getD 0 ∧ (mget s.dues d).getD 0 ≤ 1152921504606846976 := by
 cases hg : mget s.dues d with
 | none => simp
 | some v => exact h.rng _ (mget_mem hg)
theorem WOk.ix {s : Wheel} (h : WOk s) (d : Int) : listIx s.now ((mget s.dues d).getD 0) < s.ls.length := by
 rw [h.len]
 exact listIx_lt h.now (h.due d).2
theorem WOk.place {s : Wheel} (h : WOk s) {d : Int} (hd : (mget s.dues d).isSome = true) : d ∈ s.ls.getD (listIx s.now ((mget s.dues d).getD 0)) [] := by
 have : d ∈ s.ls.flatten := h.perm.mem_iff.2 (mget_some_iff.1 hd)
 obtain ⟨i, hi, hm⟩ := mem_flat.1 this
 rw [h.at' i d hm]
 exact hm
theorem WOk.max {s : Wheel} (h : WOk s) : wheelMax s = s.dues.length := by
 have := h.perm.length_eq
 rw [List.length_flatten] at this
 simpa [wheelMax] using this
theorem putOne_at {s : Wheel} {l0 : List Int} (hl : s.ls.length = 169) (hp : s.ls.flatten.Perm l0) (ha : ∀ i d, d ∈ s.ls.getD i [] → listIx s.now ((mget s.dues d).getD 0) = i) (d : Int) (hi : listIx s.now ((mget s.dues d).getD 0) < 169) :
  (putOne s d).now = s.now ∧ (putOne s d).dues = s.dues ∧ (putOne s d).ls.length = 169 ∧ (putOne s d).ls.flatten.Perm (l0 ++ [d]) ∧ ∀ i x, x ∈ (putOne s d).ls.getD i [] → listIx s.now ((mget s.dues x).getD 0) = i := by
 refine ⟨rfl, rfl, by simp [putOne, hl], (flat_add s.ls _ d (by rw [hl]; exact hi)).trans (hp.append_right _), fun i x hx => ?_⟩
 simp only [putOne] at hx
 rw [getD_set] at hx
 split at hx
 ·rename_i e
  rcases List.mem_append.1 hx with hx | hx
  ·rw [← e.1]; exact ha _ _ hx
  ·rw [List.mem_singleton.1 hx, e.1]
 ·exact ha _ _ hx
theorem putAll_at : ∀ (l : List Int) {s : Wheel} {l0 : List Int} (hl : s.ls.length = 169) (hp : s.ls.flatten.Perm l0) (ha : ∀ i d, d ∈ s.ls.getD i [] → listIx s.now ((mget s.dues d).getD 0) = i) (hi : ∀ d, listIx s.now ((mget s.dues d).getD 0) < 169),
  (putAll s l).now = s.now ∧ (putAll s l).dues = s.dues ∧ (putAll s l).ls.length = 169 ∧ (putAll s l).ls.flatten.Perm (l0 ++ l) ∧ ∀ i x, x ∈ (putAll s l).ls.getD i [] → listIx s.now ((mget s.dues x).getD 0) = i
 | [], s, l0, hl, hp, ha, hi => ⟨rfl, rfl, hl, by simpa [putAll] using hp, ha⟩
 | d :: l, s, l0, hl, hp, ha, hi => by
  obtain ⟨a1, a2, a3, a4, a5⟩ := putOne_at hl hp ha d (hi d)
  obtain ⟨b1, b2, b3, b4, b5⟩ := putAll_at l (s := putOne s d) a3 a4 (by rw [a1, a2]; exact a5) (by rw [a1, a2]; exact hi)
  have e : putAll s (d :: l) = putAll (putOne s d) l := rfl
  rw [e]
  refine ⟨b1.trans a1, b2.trans a2, b3, ?_, fun i x hx => ?_⟩
  ·rw [List.append_assoc] at b4
   exact b4
  ·have := b5 i x hx
   rwa [a1, a2] at this
theorem WOk.start (now : Nat) (h : now ≤ 1152921504606846976) : WOk (wheel0 now) := by
 refine ⟨by unfold wheel0; exact List.length_replicate, h, (fun x hx => by cases hx), List.nodup_nil, ?_, fun i d hd => ?_⟩
 ·show (List.replicate 169 ([] : List Int)).flatten.Perm []
  rw [List.flatten_replicate_nil]
 ·simp only [wheel0, List.getD_eq_getElem?_getD, List.getElem?_replicate] at hd
  split at hd <;> simp at hd
theorem WOk.add {s : Wheel} (h : WOk s) {d due : Int} (hr : rightF due = true) (hn : mget s.dues d = none) :
  (wheelAdd s d due).2 = 0 ∧ WOk (wheelAdd s d due).1 ∧ (wheelAdd s d due).1.dues = mput s.dues d due ∧ (wheelAdd s d due).1.now = s.now := by
 unfold wheelAdd;rw [if_pos hr, hn]
 simp only [Option.isSome_none, Bool.false_eq_true, if_false]
 have hrr := rightF_iff hr
 have hnew : d ∉ s.ls.flatten := fun e => mget_none_iff.1 hn (h.perm.mem_iff.1 e)
 have hg : mget (mput s.dues d due) d = some due := by rw [mput_get]; simp
 obtain ⟨a1, a2, a3, a4, a5⟩ := putOne_at (s := ⟨s.now, mput s.dues d due, s.ls⟩) h.len h.perm
  (fun i x hx => by
   have hne : ¬ d = x := fun e => hnew (by rw [e]; exact (sub_flat s.ls i).subset hx)
   show listIx s.now ((mget (mput s.dues d due) x).getD 0) = i
   rw [mput_get, if_neg hne]
   exact h.at' i x hx) d (by
   show listIx s.now ((mget (mput s.dues d due) d).getD 0) < 169
   rw [hg]
   exact listIx_lt h.now hrr.2)
 refine ⟨by trivial, ⟨a3, h.now, fun x hx => ?_, mput_nodup h.nd, ?_, a5⟩, rfl, rfl⟩
 ·rcases mem_mput hx with rfl | hx
  ·exact hrr
  ·exact h.rng x hx
 ·rw [show (putOne ⟨s.now, mput s.dues d due, s.ls⟩ d).dues = mput s.dues d due from rfl, mput_keys_new hn]
  exact a4
theorem WOk.drop {s : Wheel} (h : WOk s) {d : Int} (hs : (mget s.dues d).isSome = true) :
  (wheelDrop s d).2 = 0 ∧ WOk (wheelDrop s d).1 ∧ (wheelDrop s d).1.dues = mdel s.dues d ∧ (wheelDrop s d).1.now = s.now := by
 have hp := h.place hs
 have hix := h.ix d
 unfold wheelDrop
 cases hg : mget s.dues d with
 | none => rw [hg] at hs; exact absurd hs (by decide)
 | some due =>
  rw [hg] at hp hix
  simp only [Option.getD_some] at hp hix
  have hnd : (s.ls.getD (listIx s.now due) []).Nodup := (h.perm.nodup_iff.2 h.nd).sublist (sub_flat _ _)
  have hf : ((s.ls.getD (listIx s.now due) []).filter fun x => !(x == d)) = (s.ls.getD (listIx s.now due) []).erase d := by
   rw [hnd.erase_eq_filter]; rfl
  have hper : (s.ls.set (listIx s.now due) ((s.ls.getD (listIx s.now due) []).erase d)).flatten.Perm ((mdel s.dues d).map Prod.fst) := by
   rw [mdel_keys]
   exact (flat_drop hix hp).trans (h.perm.erase d)
  dsimp only;rw [hf]
  refine ⟨rfl, ⟨by simpa using h.len, h.now, fun x hx => h.rng x (mem_mdel hx), mdel_nodup h.nd, hper, fun i x hx => ?_⟩, rfl, rfl⟩
  have hx2 : x ∈ (mdel s.dues d).map Prod.fst := hper.mem_iff.1 ((sub_flat _ i).subset hx)
  rw [mdel_keys, h.nd.mem_erase_iff] at hx2
  show listIx s.now ((mget (mdel s.dues d) x).getD 0) = i
  rw [mdel_get h.nd, if_neg (fun e => hx2.1 e.symm)];dsimp only at hx;rw [getD_set] at hx
  split at hx
  ·rename_i e
   rw [← e.1]
   exact h.at' _ x (List.mem_of_mem_erase hx)
  ·exact h.at' i x hx
theorem takeN_at (s : Wheel) (b : Nat) : ∀ n, b + n ≤ s.ls.length → ((takeN s b n).1.ls.flatten ++ (takeN s b n).2).Perm s.ls.flatten ∧ ∀ i, (takeN s b n).1.ls.getD i [] = if b ≤ i ∧ i < b + n then [] else s.ls.getD i []
 | 0, _ => ⟨by simp [takeN], fun i => by simp [takeN]; omega⟩
 | n + 1, hb => by
  obtain ⟨h1, h2⟩ := takeN_at s b n (by omega)
  have hl := (takeN_sum s b n).1
  constructor
  ·simp only [takeN]
   have h3 := flatten_set (takeN s b n).1.ls (b + n) [] (by omega)
   rw [List.append_nil] at h3;rw [← List.append_assoc]
   refine List.Perm.trans ?_ h1
   refine List.Perm.trans ?_ (h3.append_right _)
   rw [List.append_assoc, List.append_assoc]
   exact List.Perm.append_left _ List.perm_append_comm
  ·intro i
   simp only [takeN]
   rw [getD_set, h2 i]
   by_cases e : b + n = i
   ·subst e
    rw [if_pos ⟨rfl, by omega⟩, if_pos (by omega)]
   ·rw [if_neg (fun h => e h.1)]
    by_cases hi : b ≤ i ∧ i < b + n
    ·rw [if_pos hi, if_pos (by omega)]
    ·rw [if_neg hi, if_neg (by omega)]
theorem takeLevels_at (s : Wheel) : ∀ t, 8 * t ≤ s.ls.length → ((takeLevels s t).1.ls.flatten ++ (takeLevels s t).2).Perm s.ls.flatten ∧ ∀ i, (takeLevels s t).1.ls.getD i [] = if i < 8 * t then [] else s.ls.getD i []
 | 0, _ => ⟨by simp [takeLevels], fun i => by simp [takeLevels]⟩
 | t + 1, ht => by
  obtain ⟨h1, h2⟩ := takeLevels_at s t (by omega)
  have hl := (takeLevels_sum s t).1
  obtain ⟨g1, g2⟩ := takeN_at (takeLevels s t).1 (8 * t) 8 (by omega)
  constructor
  ·simp only [takeLevels]
   refine List.Perm.trans ?_ h1
   refine List.Perm.trans ?_ (g1.append_right _)
   rw [List.append_assoc]
   exact List.Perm.append_left _ List.perm_append_comm
  ·intro i
   simp only [takeLevels]
   rw [g2 i, h2 i]
   by_cases e : 8 * t ≤ i ∧ i < 8 * t + 8
   ·rw [if_pos e, if_pos (by omega)]
   ·rw [if_neg e]
    by_cases e2 : i < 8 * t
    ·rw [if_pos e2, if_pos (by omega)]
    ·rw [if_neg e2, if_neg (by omega)]
theorem goneF_at {s : Wheel} (h : WOk s) {t : Nat} (ht : t ≤ 1152921504606846976) : ((goneF s t).1.ls.flatten ++ (goneF s t).2).Perm s.ls.flatten ∧ (goneF s t).1.ls.length = 169 ∧ (goneF s t).1.dues = s.dues ∧
  ∀ i, (goneF s t).1.ls.getD i [] = if i < 8 * levelF t s.now + digitF t (levelF t s.now) + 1 then [] else s.ls.getD i [] := by
 have hL := level_le ht h.now
 have hD := digit_lt t (levelF t s.now)
 unfold goneF;generalize levelF t s.now = L at *;generalize digitF t L = D at *;rw [show min (D + 1) 8 = D + 1 by omega]
 obtain ⟨h1, h2⟩ := takeLevels_at s L (by rw [h.len]; omega)
 have hl := (takeLevels_sum s L).1
 obtain ⟨g1, g2⟩ := takeN_at (takeLevels s L).1 (8 * L) (D + 1) (by rw [hl, h.len]; omega)
 dsimp only
 refine ⟨?_, ?_, ?_, fun i => ?_⟩
 ·refine List.Perm.trans ?_ h1
  refine List.Perm.trans ?_ (g1.append_right _)
  rw [List.append_assoc]
  exact List.Perm.append_left _ List.perm_append_comm
 ·rw [(takeN_sum _ _ _).1, hl, h.len]
 ·rw [(takeN_now _ _ _).2, (takeLevels_now _ _).2]
 ·rw [g2 i, h2 i]
  by_cases e : 8 * L ≤ i ∧ i < 8 * L + (D + 1)
  ·rw [if_pos e, if_pos (by omega)]
  ·rw [if_neg e]
   by_cases e2 : i < 8 * L
   ·rw [if_pos e2, if_pos (by omega)]
   ·rw [if_neg e2, if_neg (by omega)]
theorem WOk.goAt {s : Wheel} (h : WOk s) {t : Nat} (ht : t ≤ 1152921504606846976) (hn : s.now < t) : WOk (goAt s t) ∧ (Go.Proofs.YtiocbpabbjgkhaaGreatDoor.goAt s t).dues = s.dues ∧ (Go.Proofs.YtiocbpabbjgkhaaGreatDoor.goAt s t).now = t := by
 obtain ⟨h1, h2, h3, h4⟩ := goneF_at h ht
 unfold Go.Proofs.YtiocbpabbjgkhaaGreatDoor.goAt
 have hix : ∀ d, listIx t ((mget s.dues d).getD 0) < 169 := fun d => listIx_lt ht (h.due d).2
 obtain ⟨a1, a2, a3, a4, a5⟩ := putAll_at (goneF s t).2 (s := ⟨t, (goneF s t).1.dues, (goneF s t).1.ls⟩) (l0 := (goneF s t).1.ls.flatten) h2 (List.Perm.refl _)
  (fun i d hd => by
   show listIx t ((mget (goneF s t).1.dues d).getD 0) = i
   rw [h3]
   have hd : d ∈ (goneF s t).1.ls.getD i [] := hd
   rw [h4 i] at hd
   split at hd
   ·cases hd
   ·rename_i hi
    have e := h.at' i d hd
    have hb := h.due d
    generalize (mget s.dues d).getD 0 = due at *
    unfold listIx at e ⊢
    by_cases hle : due ≤ s.now
    ·rw [if_pos hle] at e
     rw [if_pos (by omega), e]
    ·rw [if_neg hle] at e
     have k := level_keep hn ht (due := due.toNat) (by omega) (by omega) (by omega)
     rw [if_neg (by omega), k.2, e])
  (fun d => by
   show listIx t ((mget (goneF s t).1.dues d).getD 0) < 169
   rw [h3]
   exact hix d)
 refine ⟨⟨a3, by rw [a1]; exact ht, by rw [a2]; show ∀ x ∈ (goneF s t).1.dues, _; rw [h3]; exact h.rng, by rw [a2]; show ((goneF s t).1.dues.map Prod.fst).Nodup; rw [h3]; exact h.nd, ?_, ?_⟩, by rw [a2]; exact h3, a1⟩
 ·rw [a2]
  show List.Perm _ ((goneF s t).1.dues.map Prod.fst)
  exact (a4.trans (h1.trans h.perm)).trans (List.Perm.of_eq (by rw [h3]))
 ·rw [a1, a2]
  exact a5
theorem WOk.go {s : Wheel} (h : WOk s) (t : Int) : WOk (wheelGo s t).1 ∧ (wheelGo s t).1.dues = s.dues := by
 unfold wheelGo
 split
 ·exact ⟨h, rfl⟩
 ·rename_i h1
  split
  ·rename_i h2
   have hr := rightF_iff h2
   split
   ·exact ⟨h, rfl⟩
   ·rename_i h3
    have := h.goAt (t := t.toNat) (by omega) (by omega)
    exact ⟨this.1, this.2.1⟩
  ·exact ⟨h, rfl⟩
theorem firstL_nil {ls : List (List Int)} (h : firstL ls = []) : ∀ l ∈ ls, l = [] := by
 induction ls with
 | nil => intro l hl; cases hl
 | cons a ls ih =>
  simp only [firstL] at h
  split at h
  ·rename_i e
   intro l hl
   rcases List.mem_cons.1 hl with rfl | hl
   ·exact e
   ·exact ih h l hl
  ·rename_i e
   exact absurd h e
theorem WOk.first {s : Wheel} (h : WOk s) (hd : s.dues ≠ []) : wheelFirst s ≠ [] := by
 intro e
 unfold wheelFirst at e
 split at e
 ·rename_i h1
  exact h1 e
 ·rename_i h1
  have h1 : s.ls.getD 168 [] = [] := Classical.not_not.1 h1
  have h2 := firstL_nil e
  have hall : s.ls.flatten = [] := by
   rw [List.eq_nil_iff_forall_not_mem]
   intro d hd
   obtain ⟨i, hi, hm⟩ := mem_flat.1 hd
   rw [h.len] at hi
   by_cases e8 : i = 168
   ·rw [e8, h1] at hm; cases hm
   ·have hi2 : i < s.ls.length := by rw [h.len]; omega
    have : s.ls.getD i [] ∈ s.ls.take 168 := by
     rw [List.getD_eq_getElem?_getD, List.getElem?_eq_getElem hi2, Option.getD_some]
     exact List.mem_take_iff_getElem.2 ⟨i, by rw [h.len]; omega, rfl⟩
    rw [h2 _ this] at hm
    cases hm
  have := h.perm.length_eq
  rw [hall] at this
  exact hd (List.length_eq_zero_iff.1 (by simpa using this.symm))
theorem WOk.due_mem {s : Wheel} (h : WOk s) (hd : wheelDue s ≠ []) : (mget s.dues ((wheelDue s).headD 0)).isSome = true := by
 have h1 : (wheelDue s).headD 0 ∈ wheelDue s := by
  cases he : wheelDue s with
  | nil => exact absurd he hd
  | cons a l => simp
 have h2 := (sortedF_perm s.dues (wheelReady s)).mem_iff.1 h1
 exact mget_some_iff.2 (h.perm.mem_iff.1 ((sub_flat s.ls 168).subset h2))
theorem WOk.list_mem {s : Wheel} (h : WOk s) (hd : wheelList s ≠ []) : (mget s.dues ((wheelList s).headD 0)).isSome = true := by
 have h1 : (wheelList s).headD 0 ∈ wheelList s := by
  cases he : wheelList s with
  | nil => exact absurd he hd
  | cons a l => simp
 have h2 := (sortedF_perm s.dues (keysOf s)).mem_iff.1 h1
 exact mget_some_iff.2 h2
theorem WOk.next {s : Wheel} (h : WOk s) : 0 ≤ (wheelNext s).1 ∧ (wheelNext s).1 ≤ 1152921504606846976 := by
 unfold wheelNext
 split
 ·exact ⟨by decide, by decide⟩
 ·exact h.due _
def keysL (m : Timers) : List (List Int) := m.l.map fun s => s.dues.map Prod.fst
theorem keysL_len (m : Timers) : (keysL m).length = m.l.length := by simp [keysL]
theorem keysL_get (m : Timers) (i : Nat) : (keysL m).getD i [] = (m.l.getD i noWheel).dues.map Prod.fst := by
 simp only [keysL, List.getD_eq_getElem?_getD, List.getElem?_map]
 cases m.l[i]? with
 | none => rfl
 | some s => rfl
theorem keysL_set (ids : Slot) (l : List Wheel) (wh wh' : List (Int × Int)) (ids' : Slot) (i : Nat) (s : Wheel) : keysL ⟨ids', l.set i s, wh'⟩ = (keysL ⟨ids, l, wh⟩).set i (s.dues.map Prod.fst) := by
 simp [keysL, List.map_set]
structure TmOk (m : Timers) : Prop where
 own : Own 48 m.ids (keysL m)
 wok : ∀ i, i < m.l.length → WOk (m.l.getD i noWheel)
 nd : (m.wh.map Prod.fst).Nodup
 wh : ∀ d c, mget m.wh d = some c ↔ 0 ≤ c ∧ d ∈ (keysL m).getD c.toNat []
theorem TmOk.dues {m : Timers} (h : TmOk m) (i : Nat) : (m.l.getD i noWheel).dues.length ≤ 48 := by
 have := h.own.len i
 rw [keysL_get] at this
 simpa using this
theorem TmOk.few {m : Timers} (h : TmOk m) : fewT m := fun i hi => by
 rw [(h.wok i hi).max]
 have := h.dues i
 omega
theorem TmOk.keysT {m : Timers} (h : TmOk m) : keysT m := fun i hi => by
 have := h.dues i
 refine ⟨fun x hx => ?_, by omega⟩
 have hm : x.1 ∈ (keysL m).flatten := (sub_flat (keysL m) i).subset (by rw [keysL_get]; exact List.mem_map_of_mem hx)
 have := h.own.rng hm
 unfold NumD.In64
 omega
theorem TmOk.next {m : Timers} (h : TmOk m) : nextOk m := fun i hi hd => (h.wok i hi).first hd
theorem TmOk.next_in {m : Timers} (h : TmOk m) (cpu : Int) : 0 ≤ (timersNext m cpu).1 ∧ (timersNext m cpu).1 ≤ 1152921504606846976 := by
 unfold timersNext
 split
 ·exact ⟨by decide, by decide⟩
 ·rename_i hm
  obtain ⟨i, rfl, hi⟩ := may_yes (Classical.not_not.1 hm)
  rw [Int.toNat_natCast]
  exact (h.wok i hi).next
theorem TmOk.on {m : Timers} (h : TmOk m) {d c : Int} (hd : mget m.wh d = some c) : ∃ i : Nat, c = i ∧ i < m.l.length ∧ (mget (m.l.getD i noWheel).dues d).isSome = true := by
 obtain ⟨h1, h2⟩ := (h.wh d c).1 hd
 have hlt : c.toNat < m.l.length := Nat.lt_of_not_le fun hle => by
  rw [List.getD_eq_getElem?_getD, List.getElem?_eq_none (by rw [keysL_len]; exact hle)] at h2
  cases h2
 refine ⟨c.toNat, by omega, hlt, ?_⟩
 rw [keysL_get] at h2
 exact mget_some_iff.2 h2
theorem TmOk.of_on {m : Timers} (h : TmOk m) {d : Int} {i : Nat} (hd : (mget (m.l.getD i noWheel).dues d).isSome = true) : mget m.wh d = some (i : Int) :=
 (h.wh d i).2 ⟨by omega, by rw [keysL_get]; simpa using mget_some_iff.1 hd⟩
theorem TmOk.start (cpus : Nat) : TmOk (timers0 cpus) := by
 have e : keysL (timers0 cpus) = List.replicate cpus [] := by simp [keysL, timers0, wheel0]
 refine ⟨?_, fun i hi => ?_, List.nodup_nil, fun d c => ?_⟩
 ·rw [e]; exact Own.start 48 cpus
 ·have hi : i < cpus := by simpa [timers0] using hi
  have : (timers0 cpus).l.getD i noWheel = wheel0 0 := by simp [timers0, hi]
  rw [this]
  exact WOk.start 0 (by omega)
 ·rw [e]
  constructor
  ·intro h; cases h
  ·rintro ⟨-, h⟩
   simp only [List.getD_eq_getElem?_getD, List.getElem?_replicate] at h
   split at h <;> simp at h
theorem nth_in {α : Type} {L : List α} {i : Nat} {d x : α} (h : i < L.length) : (L.set i x).getD i d = x := by rw [getD_set, if_pos ⟨rfl, h⟩]
theorem nth_off {α : Type} {L : List α} {i j : Nat} {d x : α} (h : i ≠ j) : (L.set i x).getD j d = L.getD j d := by rw [getD_set, if_neg (fun e => h e.1)]
theorem TmOk.arm {m : Timers} (h : TmOk m) (cpu due : Int) :
  TmOk (timersArm m cpu due).1 ∧ (timersArm m cpu due).1.l.length = m.l.length ∧ (((timersArm m cpu due).2.2 ≠ 0 ∧ (timersArm m cpu due).1 = m) ∨
   ((timersArm m cpu due).2.2 = 0 ∧ mget m.wh (timersArm m cpu due).2.1 = none ∧ 1 ≤ (timersArm m cpu due).2.1 ∧ (timersArm m cpu due).1.wh = mput m.wh (timersArm m cpu due).2.1 cpu)) := by
 unfold timersArm
 split
 ·exact ⟨h, rfl, .inl ⟨(by decide : (3 : Int) ≠ 0), rfl⟩⟩
 rename_i hm
 obtain ⟨i, rfl, hi⟩ := may_yes (Classical.not_not.1 hm)
 rw [Int.toNat_natCast]
 split
 ·exact ⟨h, rfl, .inl ⟨(by decide : (2 : Int) ≠ 0), rfl⟩⟩
 rename_i hdue
 by_cases he : (slotTake 48 m.ids).2.2 = 0
 ·rw [if_neg (by simp [he])]
  dsimp only
  have hr : rightF due = true := by
   unfold rightF
   simp only [Bool.and_eq_true, decide_eq_true_eq]
   omega
  obtain ⟨o1, o2, o3, o4⟩ := h.own.take (L' := (keysL m).set i ((keysL m).getD i [] ++ [(slotTake 48 m.ids).2.1])) (by omega) he (flat_add _ i _ (by rw [keysL_len]; exact hi))
  generalize (slotTake 48 m.ids).2.1 = id at *
  have hnone : mget (m.l.getD i noWheel).dues id = none := by
   refine mget_none_iff.2 fun e => o2 ((sub_flat _ i).subset ?_)
   rw [keysL_get]; exact e
  obtain ⟨a1, a2, a3, -⟩ := (h.wok i hi).add hr hnone
  have hw : mget m.wh id = none := by
   cases hg : mget m.wh id with
   | none => rfl
   | some c =>
    obtain ⟨j, rfl, hj, hs⟩ := h.on hg
    exact absurd ((sub_flat (keysL m) j).subset (by rw [keysL_get]; exact mget_some_iff.1 hs)) o2
  have ek : keysL ⟨(slotTake 48 m.ids).1, m.l.set i (wheelAdd (m.l.getD i noWheel) id due).1, mput m.wh id i⟩ = (keysL m).set i ((keysL m).getD i [] ++ [id]) := by
   rw [keysL_set m.ids m.l m.wh, a3, mput_keys_new hnone, keysL_get]
  refine ⟨⟨by rw [ek]; exact o1, fun j hj => ?_, mput_nodup h.nd, fun d c => ?_⟩, by simp, .inr ⟨a1, hw, o3, rfl⟩⟩
  ·by_cases e : i = j
   ·subst e
    show WOk ((m.l.set i _).getD i noWheel)
    rw [nth_in hi]; exact a2
   ·show WOk ((m.l.set i _).getD j noWheel)
    rw [nth_off e]
    exact h.wok j (by simpa using hj)
  ·rw [ek, mput_get]
   by_cases e : id = d
   ·subst e
    rw [if_pos rfl]
    constructor
    ·intro hc
     have hc : (i : Int) = c := by simpa using hc
     subst hc
     exact ⟨by omega, by rw [Int.toNat_natCast, nth_in (by rw [keysL_len]; exact hi)]; simp⟩
    ·rintro ⟨hc, hc2⟩
     by_cases e2 : i = c.toNat
     ·rw [e2, Int.toNat_of_nonneg hc]
     ·rw [nth_off e2] at hc2
      exact absurd ((sub_flat _ _).subset hc2) o2
   ·rw [if_neg e, h.wh]
    refine and_congr_right fun hc => ?_
    by_cases e2 : i = c.toNat
    ·rw [← e2, nth_in (by rw [keysL_len]; exact hi)]
     simp [Ne.symm e]
    ·rw [nth_off e2]
 ·rw [if_pos he]
  dsimp only;rw [slotTake_bad he]
  exact ⟨h, rfl, .inl ⟨he, rfl⟩⟩
theorem TmOk.cancel {m : Timers} (h : TmOk m) {d : Int} (hs : (mget m.wh d).isSome = true) :
  TmOk (timersCancel m d).1 ∧ (timersCancel m d).1.l.length = m.l.length ∧ (timersCancel m d).2 = 0 ∧ (timersCancel m d).1.wh = mdel m.wh d := by
 unfold timersCancel
 cases hg : mget m.wh d with
 | none => rw [hg] at hs; exact absurd hs (by decide)
 | some v =>
  obtain ⟨i, rfl, hi, hd⟩ := h.on hg
  dsimp only;rw [Int.toNat_natCast]
  obtain ⟨a1, a2, a3, -⟩ := (h.wok i hi).drop hd
  have hmem : d ∈ (keysL m).getD i [] := by rw [keysL_get]; exact mget_some_iff.1 hd
  obtain ⟨o1, o2⟩ := h.own.give (L' := (keysL m).set i (((keysL m).getD i []).erase d)) (by omega) ((sub_flat _ i).subset hmem) (flat_drop (by rw [keysL_len]; exact hi) hmem)
  have ek : keysL ⟨(slotGive 48 m.ids d).1, m.l.set i (wheelDrop (m.l.getD i noWheel) d).1, mdel m.wh d⟩ = (keysL m).set i (((keysL m).getD i []).erase d) := by
   rw [keysL_set m.ids m.l m.wh, a3, mdel_keys, keysL_get]
  refine ⟨⟨by rw [ek]; exact o1, fun j hj => ?_, mdel_nodup h.nd, fun x c => ?_⟩, by simp, a1, rfl⟩
  ·by_cases e : i = j
   ·subst e
    show WOk ((m.l.set i _).getD i noWheel)
    rw [nth_in hi]; exact a2
   ·show WOk ((m.l.set i _).getD j noWheel)
    rw [nth_off e]
    exact h.wok j (by simpa using hj)
  ·rw [ek, mdel_get h.nd]
   by_cases e : d = x
   ·subst e
    rw [if_pos rfl]
    constructor
    ·intro hc; cases hc
    ·rintro ⟨hc, hc2⟩
     by_cases e2 : i = c.toNat
     ·rw [← e2, nth_in (by rw [keysL_len]; exact hi), (h.own.nodup i).mem_erase_iff] at hc2
      exact absurd rfl hc2.1
     ·rw [nth_off e2] at hc2
      exact absurd (flat_once h.own.nd hmem hc2) e2
   ·rw [if_neg e, h.wh]
    refine and_congr_right fun hc => ?_
    by_cases e2 : i = c.toNat
    ·rw [← e2, nth_in (by rw [keysL_len]; exact hi), (h.own.nodup i).mem_erase_iff]
     exact ⟨fun hx => ⟨fun e3 => e e3.symm, hx⟩, fun hx => hx.2⟩
    ·rw [nth_off e2]
theorem TmOk.go {m : Timers} (h : TmOk m) (t : Int) : TmOk (timersGo m t).1 ∧ (timersGo m t).1.wh = m.wh ∧ (timersGo m t).1.l.length = m.l.length := by
 have el : (timersGo m t).1.l = m.l.map fun s => (wheelGo s t).1 := by simp [timersGo, goTo]
 have eg : ∀ i, i < m.l.length → (timersGo m t).1.l.getD i noWheel = (wheelGo (m.l.getD i noWheel) t).1 := fun i hi => by
  rw [el]
  simp only [List.getD_eq_getElem?_getD, List.getElem?_map, List.getElem?_eq_getElem hi]
  rfl
 have ek : keysL (timersGo m t).1 = keysL m := by
  refine List.ext_getElem? fun i => ?_
  by_cases hi : i < m.l.length
  ·have := (h.wok i hi).go t
   simp only [keysL, List.getElem?_map, el]
   rw [List.getD_eq_getElem?_getD, List.getElem?_eq_getElem hi] at this
   simp only [List.getElem?_eq_getElem hi, Option.map_some, Option.getD_some] at this ⊢
   rw [this.2]
  ·simp only [keysL, List.getElem?_map, el, List.getElem?_eq_none (by omega : m.l.length ≤ i), Option.map_none]
 refine ⟨⟨by rw [ek]; exact h.own, fun i hi => ?_, h.nd, by rw [ek]; exact h.wh⟩, rfl, by rw [el]; simp⟩
 have hi : i < m.l.length := by rw [el] at hi; simpa using hi
 rw [eg i hi]
 exact ((h.wok i hi).go t).1
theorem TmOk.fire {m : Timers} (h : TmOk m) (cpu : Int) :
  ((timersFire m cpu).2.2 ≠ 0 ∧ (timersFire m cpu).1 = m ∧ (timersFire m cpu).2.1 = 0 ∧ timersReady m cpu = false) ∨
  ((mget m.wh (timersFire m cpu).2.1).isSome = true ∧ (timersFire m cpu).2.2 = 0 ∧ (timersFire m cpu).1 = (timersCancel m (timersFire m cpu).2.1).1) := by
 unfold timersFire timersReady timersDue
 split
 ·rename_i hm
  exact .inl ⟨(by decide : (3 : Int) ≠ 0), rfl, rfl, by simp⟩
 ·rename_i hm
  obtain ⟨i, rfl, hi⟩ := may_yes (Classical.not_not.1 hm)
  rw [Int.toNat_natCast]
  split
  ·rename_i hd
   exact .inl ⟨(by decide : (12 : Int) ≠ 0), rfl, rfl, by rw [decide_eq_false_iff_not]; exact fun e => e hd⟩
  ·rename_i hd
   right
   have hs := (h.wok i hi).due_mem hd
   have := h.of_on hs
   dsimp only
   refine ⟨by rw [this]; rfl, (h.cancel (by rw [this]; rfl)).2.2.1, rfl⟩
theorem TmOk.move {m : Timers} (h : TmOk m) (a b : Int) :
  TmOk (timersMove m a b).1 ∧ (timersMove m a b).1.l.length = m.l.length ∧ (timersMove m a b).1.wh.map Prod.fst = m.wh.map Prod.fst := by
 unfold timersMove
 split
 ·exact ⟨h, rfl, rfl⟩
 rename_i hm
 have hm2 : may2 m.l.length a b = 0 := Classical.not_not.1 hm
 clear hm;unfold may2 at hm2
 have ha : mayF m.l.length a = 0 := Classical.byContradiction fun e => by
  rw [if_pos e] at hm2
  exact e hm2
 rw [if_neg (by simp [ha])] at hm2
 obtain ⟨i, rfl, hi⟩ := may_yes ha
 obtain ⟨j, rfl, hj⟩ := may_yes hm2
 split
 ·exact ⟨h, rfl, rfl⟩
 rename_i hne
 have hne : i ≠ j := fun e => hne (by rw [e])
 have el : timersList m (i : Int) = wheelList (m.l.getD i noWheel) := by
  unfold timersList
  rw [if_neg (by simp [ha]), Int.toNat_natCast]
 rw [el, Int.toNat_natCast, Int.toNat_natCast]
 split
 ·exact ⟨h, rfl, rfl⟩
 rename_i hl
 have hs := (h.wok i hi).list_mem hl
 generalize (wheelList (m.l.getD i noWheel)).headD 0 = id at *
 have hw := h.of_on hs
 have hdue : rightF (timersWhen m id).1 = true := by
  unfold timersWhen;rw [hw];dsimp only;rw [Int.toNat_natCast]
  have := (h.wok i hi).due id
  unfold rightF
  simp only [Bool.and_eq_true, decide_eq_true_eq]
  exact this
 generalize (timersWhen m id).1 = due at *;unfold timersMoveTo;dsimp only
 obtain ⟨a1, a2, a3, -⟩ := (h.wok i hi).drop hs
 have hmem : id ∈ (keysL m).getD i [] := by rw [keysL_get]; exact mget_some_iff.1 hs
 have hnone : mget (m.l.getD j noWheel).dues id = none := by
  refine mget_none_iff.2 fun e => hne (flat_once h.own.nd hmem (by rw [keysL_get]; exact e))
 obtain ⟨b1, b2, b3, -⟩ := (h.wok j hj).add hdue hnone
 have ek : keysL ⟨m.ids, (m.l.set i (wheelDrop (m.l.getD i noWheel) id).1).set j (wheelAdd (m.l.getD j noWheel) id due).1, mput m.wh id j⟩ = ((keysL m).set i (((keysL m).getD i []).erase id)).set j ((keysL m).getD j [] ++ [id]) := by
  rw [keysL_set m.ids _ m.wh, keysL_set m.ids m.l m.wh, a3, b3, mdel_keys, mput_keys_new hnone, keysL_get, keysL_get]
 have hperm : (((keysL m).set i (((keysL m).getD i []).erase id)).set j ((keysL m).getD j [] ++ [id])).flatten.Perm (keysL m).flatten := by
  have p1 := flat_add ((keysL m).set i (((keysL m).getD i []).erase id)) j id (by simp [keysL_len]; exact hj)
  rw [nth_off hne] at p1
  have p2 := flat_drop (L := keysL m) (i := i) (d := id) (by rw [keysL_len]; exact hi) hmem
  refine p1.trans ((p2.append_right [id]).trans ?_)
  refine List.perm_append_comm.trans ?_
  exact (List.perm_cons_erase ((sub_flat _ i).subset hmem)).symm
 refine ⟨⟨by rw [ek]; exact h.own.perm hperm, fun k hk => ?_, mput_nodup h.nd, fun x c => ?_⟩, by simp, mput_keys_old (by rw [hw]; rfl)⟩
 ·show WOk (((m.l.set i _).set j _).getD k noWheel)
  by_cases e : j = k
  ·subst e
   rw [nth_in (by simpa using hj)]; exact b2
  ·rw [nth_off e]
   by_cases e2 : i = k
   ·subst e2
    rw [nth_in hi]; exact a2
   ·rw [nth_off e2]
    exact h.wok k (by simpa using hk)
 ·rw [ek, mput_get]
  by_cases e : id = x
  ·subst e
   rw [if_pos rfl]
   constructor
   ·intro hc
    have hc : (j : Int) = c := by simpa using hc
    subst hc
    exact ⟨by omega, by rw [Int.toNat_natCast, nth_in (by simp [keysL_len]; exact hj)]; simp⟩
   ·rintro ⟨hc, hc2⟩
    by_cases e2 : j = c.toNat
    ·rw [e2, Int.toNat_of_nonneg hc]
    ·rw [nth_off e2] at hc2
     by_cases e3 : i = c.toNat
     ·rw [← e3, nth_in (by rw [keysL_len]; exact hi), (h.own.nodup i).mem_erase_iff] at hc2
      exact absurd rfl hc2.1
     ·rw [nth_off e3] at hc2
      exact absurd (flat_once h.own.nd hmem hc2) e3
  ·rw [if_neg e, h.wh]
   refine and_congr_right fun hc => ?_
   by_cases e2 : j = c.toNat
   ·rw [← e2, nth_in (by simp [keysL_len]; exact hj)]
    simp [Ne.symm e]
   ·rw [nth_off e2]
    by_cases e3 : i = c.toNat
    ·rw [← e3, nth_in (by rw [keysL_len]; exact hi), (h.own.nodup i).mem_erase_iff]
     exact ⟨fun hx => ⟨fun e4 => e e4.symm, hx⟩, fun hx => hx.2⟩
    ·rw [nth_off e3]
theorem put_same {α : Type} (L : List α) (i : Nat) (d : α) (h : i < L.length) : L.set i (L.getD i d) = L := by
 rw [List.getD_eq_getElem?_getD, List.getElem?_eq_getElem h, Option.getD_some, List.set_getElem_self]
theorem getD_lt {L : List (List Int)} {i : Nat} {d : Int} (h : d ∈ L.getD i []) : i < L.length := Nat.lt_of_not_le fun hle => by
 rw [List.getD_eq_getElem?_getD, List.getElem?_eq_none hle] at h
 cases h
theorem Own.room {ids : Slot} {L : List (List Int)} (h : Own 32 ids L) {d : Int} (h1 : 1 ≤ d ∧ d ≤ 32) {i : Nat} (hd : d ∉ L.getD i []) : pushF 32 (L.getD i []) d = (L.getD i [] ++ [d], 0) := by
 have : (d :: L.getD i []).length ≤ 32 := nodup_le (List.nodup_cons.2 ⟨hd, h.nodup i⟩) (fun x hx => by rcases List.mem_cons.1 hx with rfl | hx; exact h1; exact h.rng ((sub_flat L i).subset hx))
 simp only [List.length_cons] at this
 unfold pushF;rw [if_neg hd, if_neg (by omega)]
theorem wMay_yes {n : Nat} {c lo : Int} (hlo : lo = -1 ∨ lo = 0) (h : wMay n c lo = 0) : ∃ i : Nat, (c + 1).toNat = i ∧ c = (i : Int) - 1 ∧ lo ≤ c ∧ i < n := by
 unfold wMay at h
 split at h
 ·exact absurd h (by decide)
 ·exact ⟨(c + 1).toNat, rfl, by omega, by omega, by omega⟩
structure WkOk (m : Works) : Prop where
 own : Own 32 m.ids m.l
 nd : (m.wh.map Prod.fst).Nodup
 wh : ∀ d c, mget m.wh d = some c ↔ -1 ≤ c ∧ d ∈ m.l.getD (c + 1).toNat []
theorem WkOk.start (cpus : Nat) : WkOk (works0 cpus) := by
 refine ⟨Own.start 32 (cpus + 1), List.nodup_nil, fun d c => ?_⟩
 constructor
 ·intro h; cases h
 ·rintro ⟨-, h⟩
  simp only [works0, List.getD_eq_getElem?_getD, List.getElem?_replicate] at h
  split at h <;> simp at h
theorem WkOk.of {m : Works} (h : WkOk m) {d : Int} {i : Nat} (hd : d ∈ m.l.getD i []) : mget m.wh d = some ((i : Int) - 1) :=
 (h.wh d _).2 ⟨by omega, by rw [show ((i : Int) - 1 + 1).toNat = i by omega]; exact hd⟩
theorem WkOk.queue {m : Works} (h : WkOk m) (cpu : Int) :
  WkOk (worksQueue m cpu).1 ∧ (worksQueue m cpu).1.l.length = m.l.length ∧ (((worksQueue m cpu).2.2 ≠ 0 ∧ (worksQueue m cpu).1 = m) ∨
   ((worksQueue m cpu).2.2 = 0 ∧ mget m.wh (worksQueue m cpu).2.1 = none ∧ (worksQueue m cpu).1.wh = mput m.wh (worksQueue m cpu).2.1 cpu)) := by
 unfold worksQueue
 split
 ·exact ⟨h, rfl, .inl ⟨(by decide : (3 : Int) ≠ 0), rfl⟩⟩
 rename_i hm
 obtain ⟨i, hi0, hi1, hlo, hi⟩ := wMay_yes (.inl rfl) (Classical.not_not.1 hm)
 rw [hi0]
 by_cases he : (slotTake 32 m.ids).2.2 = 0
 ·rw [if_neg (by simp [he])]
  unfold worksQueueTo
  obtain ⟨o1, o2, o3, o4⟩ := h.own.take (L' := m.l.set i (m.l.getD i [] ++ [(slotTake 32 m.ids).2.1])) (by omega) he (flat_add _ i _ hi)
  generalize (slotTake 32 m.ids).2.1 = id at *
  have hn : id ∉ m.l.getD i [] := fun e => o2 ((sub_flat _ i).subset e)
  rw [h.own.room ⟨o3, by omega⟩ hn];dsimp only
  have hw : mget m.wh id = none := by
   cases hg : mget m.wh id with
   | none => rfl
   | some c => exact absurd ((sub_flat _ _).subset ((h.wh id c).1 hg).2) o2
  refine ⟨⟨o1, mput_nodup h.nd, fun d c => ?_⟩, by simp, .inr ⟨rfl, hw, rfl⟩⟩
  show mget (mput m.wh id cpu) d = some c ↔ -1 ≤ c ∧ d ∈ (m.l.set i (m.l.getD i [] ++ [id])).getD (c + 1).toNat []
  rw [mput_get]
  by_cases e : id = d
  ·subst e
   rw [if_pos rfl]
   constructor
   ·intro hc
    have hc : cpu = c := by simpa using hc
    subst hc
    exact ⟨hlo, by rw [hi0, nth_in hi]; simp⟩
   ·rintro ⟨hc, hc2⟩
    by_cases e2 : i = (c + 1).toNat
    ·have : cpu = c := by omega
     rw [this]
    ·rw [nth_off e2] at hc2
     exact absurd ((sub_flat _ _).subset hc2) o2
  ·rw [if_neg e, h.wh]
   refine and_congr_right fun hc => ?_
   by_cases e2 : i = (c + 1).toNat
   ·rw [← e2, nth_in hi]
    simp [Ne.symm e]
   ·rw [nth_off e2]
 ·rw [if_pos he]
  dsimp only;rw [slotTake_bad he]
  exact ⟨h, rfl, .inl ⟨he, rfl⟩⟩
theorem WkOk.drop {m : Works} (h : WkOk m) {d : Int} (hs : (mget m.wh d).isSome = true) :
  WkOk (worksDrop m d).1 ∧ (worksDrop m d).1.l.length = m.l.length ∧ (worksDrop m d).2 = 0 ∧ (worksDrop m d).1.wh = mdel m.wh d := by
 unfold worksDrop
 cases hg : mget m.wh d with
 | none => rw [hg] at hs; exact absurd hs (by decide)
 | some v =>
  obtain ⟨hv, hmem⟩ := (h.wh d v).1 hg
  have hi := getD_lt hmem
  dsimp only
  obtain ⟨i, hi0⟩ : ∃ i, i = (v + 1).toNat := ⟨_, rfl⟩
  rw [← hi0] at hmem hi ⊢
  have hd : dropF (m.l.getD i []) d = ((m.l.getD i []).erase d, 0) := by unfold dropF; rw [if_pos hmem]
  rw [hd]
  obtain ⟨o1, o2⟩ := h.own.give (L' := m.l.set i ((m.l.getD i []).erase d)) (by omega) ((sub_flat _ i).subset hmem) (flat_drop hi hmem)
  refine ⟨⟨o1, mdel_nodup h.nd, fun x c => ?_⟩, by simp, rfl, rfl⟩
  show mget (mdel m.wh d) x = some c ↔ -1 ≤ c ∧ x ∈ (m.l.set i ((m.l.getD i []).erase d)).getD (c + 1).toNat []
  rw [mdel_get h.nd]
  by_cases e : d = x
  ·subst e
   rw [if_pos rfl]
   constructor
   ·intro hc; cases hc
   ·rintro ⟨hc, hc2⟩
    by_cases e2 : i = (c + 1).toNat
    ·rw [← e2, nth_in hi, (h.own.nodup i).mem_erase_iff] at hc2
     exact absurd rfl hc2.1
    ·rw [nth_off e2] at hc2
     exact absurd (flat_once h.own.nd hmem hc2) e2
  ·rw [if_neg e, h.wh]
   refine and_congr_right fun hc => ?_
   by_cases e2 : i = (c + 1).toNat
   ·rw [← e2, nth_in hi, (h.own.nodup i).mem_erase_iff]
    exact ⟨fun hx => ⟨fun e3 => e e3.symm, hx⟩, fun hx => hx.2⟩
   ·rw [nth_off e2]
theorem head_mem {l : List Int} (h : l ≠ []) : l.headD 0 ∈ l := by
 cases l with
 | nil => exact absurd rfl h
 | cons a t => simp
theorem WkOk.take {m : Works} (h : WkOk m) (cpu : Int) :
  ((worksTake m cpu).2.2 ≠ 0 ∧ (worksTake m cpu).1 = m ∧ (worksTake m cpu).2.1 = 0 ∧ (wMay m.l.length cpu 0 = 0 → worksLoad m cpu + worksLoad m (-1) = 0)) ∨
  ((mget m.wh (worksTake m cpu).2.1).isSome = true ∧ (worksTake m cpu).2.2 = 0 ∧ (worksTake m cpu).1 = (worksDrop m (worksTake m cpu).2.1).1) := by
 unfold worksTake
 split
 ·rename_i hm
  exact .inl ⟨(by decide : (3 : Int) ≠ 0), rfl, rfl, fun e => absurd e hm⟩
 rename_i hm
 split
 ·rename_i hl
  right
  have := h.of (head_mem hl)
  exact ⟨by rw [this]; rfl, (h.drop (by rw [this]; rfl)).2.2.1, rfl⟩
 rename_i hl
 split
 ·rename_i hl2
  right
  have := h.of (head_mem hl2)
  exact ⟨by rw [this]; rfl, (h.drop (by rw [this]; rfl)).2.2.1, rfl⟩
 rename_i hl2
 refine .inl ⟨(by decide : (12 : Int) ≠ 0), rfl, rfl, fun _ => ?_⟩
 have e1 : m.l.getD (cpu + 1).toNat [] = [] := Classical.not_not.1 hl
 have e2 : m.l.getD 0 [] = [] := Classical.not_not.1 hl2
 have e3 : worksList m cpu = [] := by unfold worksList; split; rfl; exact e1
 have e4 : worksList m (-1) = [] := by unfold worksList; split; rfl; exact e2
 unfold worksLoad;rw [e3, e4]
 rfl
theorem WkOk.unbind {m : Works} (h : WkOk m) (cpu : Int) :
  WkOk (worksUnbind m cpu).1 ∧ (worksUnbind m cpu).1.l.length = m.l.length ∧ (worksUnbind m cpu).1.wh.map Prod.fst = m.wh.map Prod.fst := by
 unfold worksUnbind
 split
 ·exact ⟨h, rfl, rfl⟩
 rename_i hm
 obtain ⟨i, hi0, hi1, hlo, hi⟩ := wMay_yes (.inr rfl) (Classical.not_not.1 hm)
 rw [hi0]
 have hipos : i ≠ 0 := by omega
 cases hl : m.l.getD i [] with
 | nil =>
  have e : m.l.set i [] = m.l := by rw [← hl]; exact put_same _ _ _ hi
  simp only [popF, e]
  exact ⟨h, rfl, rfl⟩
 | cons x t =>
  simp only [popF, ne_eq, not_true, if_false]
  unfold worksUnbindTo;dsimp only
  have hmem : x ∈ m.l.getD i [] := by rw [hl]; simp
  have et : t = (m.l.getD i []).erase x := by rw [hl]; simp
  have hn0 : x ∉ m.l.getD 0 [] := fun e => hipos (flat_once h.own.nd hmem e)
  rw [nth_off hipos, h.own.room (h.own.rng ((sub_flat _ i).subset hmem)) hn0];dsimp only;rw [et]
  have hperm : ((m.l.set i ((m.l.getD i []).erase x)).set 0 (m.l.getD 0 [] ++ [x])).flatten.Perm m.l.flatten := by
   have p1 := flat_add (m.l.set i ((m.l.getD i []).erase x)) 0 x (by simp; omega)
   rw [nth_off hipos] at p1
   have p2 := flat_drop hi hmem
   exact p1.trans ((p2.append_right [x]).trans (List.perm_append_comm.trans (List.perm_cons_erase ((sub_flat _ i).subset hmem)).symm))
  have hw := h.of hmem
  refine ⟨⟨h.own.perm hperm, mput_nodup h.nd, fun d c => ?_⟩, by simp, mput_keys_old (by rw [hw]; rfl)⟩
  show mget (mput m.wh x (-1)) d = some c ↔ -1 ≤ c ∧ d ∈ ((m.l.set i ((m.l.getD i []).erase x)).set 0 (m.l.getD 0 [] ++ [x])).getD (c + 1).toNat []
  rw [mput_get]
  by_cases e : x = d
  ·subst e
   rw [if_pos rfl]
   constructor
   ·intro hc
    have hc : (-1 : Int) = c := by simpa using hc
    subst hc
    refine ⟨by omega, ?_⟩
    rw [show ((-1 : Int) + 1).toNat = 0 from rfl, nth_in (by simp; omega)]
    simp
   ·rintro ⟨hc, hc2⟩
    by_cases e2 : 0 = (c + 1).toNat
    ·have : (-1 : Int) = c := by omega
     rw [this]
    ·rw [nth_off e2] at hc2
     by_cases e3 : i = (c + 1).toNat
     ·rw [← e3, nth_in hi, (h.own.nodup i).mem_erase_iff] at hc2
      exact absurd rfl hc2.1
     ·rw [nth_off e3] at hc2
      exact absurd (flat_once h.own.nd hmem hc2) e3
  ·rw [if_neg e, h.wh]
   refine and_congr_right fun hc => ?_
   by_cases e2 : 0 = (c + 1).toNat
   ·rw [← e2, nth_in (by simp; omega)]
    simp [Ne.symm e]
   ·rw [nth_off e2]
    by_cases e3 : i = (c + 1).toNat
    ·rw [← e3, nth_in hi, (h.own.nodup i).mem_erase_iff]
     exact ⟨fun hx => ⟨fun e4 => e e4.symm, hx⟩, fun hx => hx.2⟩
    ·rw [nth_off e3]
def BxOk (m : Box) : Prop := Own 32 m.ids m.l
theorem BxOk.start (cpus : Nat) : BxOk (box0 cpus) := Own.start 32 cpus
theorem BxOk.send {m : Box} (h : BxOk m) (cpu : Int) :
  BxOk (boxSend m cpu).1 ∧ (boxSend m cpu).1.l.length = m.l.length ∧ (((boxSend m cpu).2.2 ≠ 0 ∧ (boxSend m cpu).1 = m) ∨
   ((boxSend m cpu).2.2 = 0 ∧ (boxSend m cpu).1.l.flatten.Perm (m.l.flatten ++ [(boxSend m cpu).2.1]))) := by
 unfold boxSend
 split
 ·exact ⟨h, rfl, .inl ⟨(by decide : (3 : Int) ≠ 0), rfl⟩⟩
 rename_i hm
 obtain ⟨i, rfl, hi⟩ := may_yes (Classical.not_not.1 hm)
 rw [Int.toNat_natCast]
 by_cases he : (slotTake 32 m.ids).2.2 = 0
 ·rw [if_neg (by simp [he])]
  unfold boxSendTo
  have hp := flat_add m.l i (slotTake 32 m.ids).2.1 hi
  obtain ⟨o1, o2, o3, o4⟩ := Own.take (L' := m.l.set i (m.l.getD i [] ++ [(slotTake 32 m.ids).2.1])) (by omega) h he hp
  generalize (slotTake 32 m.ids).2.1 = id at *
  have hn : id ∉ m.l.getD i [] := fun e => o2 ((sub_flat _ i).subset e)
  rw [Own.room h ⟨o3, by omega⟩ hn]
  exact ⟨o1, by simp, .inr ⟨rfl, hp⟩⟩
 ·rw [if_pos he]
  dsimp only;rw [slotTake_bad he]
  exact ⟨h, rfl, .inl ⟨he, rfl⟩⟩
theorem BxOk.take {m : Box} (h : BxOk m) (cpu : Int) :
  BxOk (boxTake m cpu).1 ∧ (boxTake m cpu).1.l.length = m.l.length ∧ (((boxTake m cpu).1 = m ∧ (boxTake m cpu).2.1 = 0 ∧ boxLoad m cpu = 0) ∨
   ((boxTake m cpu).2.1 ∈ m.l.flatten ∧ (boxTake m cpu).1.l.flatten.Perm (m.l.flatten.erase (boxTake m cpu).2.1))) := by
 unfold boxTake boxLoad boxList
 split
 ·rename_i hm
  exact ⟨h, rfl, .inl ⟨rfl, rfl, rfl⟩⟩
 rename_i hm
 obtain ⟨i, rfl, hi⟩ := may_yes (Classical.not_not.1 hm)
 rw [Int.toNat_natCast]
 cases hl : m.l.getD i [] with
 | nil =>
  have e : m.l.set i [] = m.l := by rw [← hl]; exact put_same _ _ _ hi
  simp only [popF, e]
  exact ⟨h, rfl, .inl ⟨rfl, rfl, rfl⟩⟩
 | cons x t =>
  simp only [popF, ne_eq, not_true, if_false]
  unfold boxTakeTo;dsimp only
  have hmem : x ∈ m.l.getD i [] := by rw [hl]; simp
  have et : t = (m.l.getD i []).erase x := by rw [hl]; simp
  rw [et]
  have hp := flat_drop hi hmem
  have hf := (sub_flat m.l i).subset hmem
  exact ⟨(Own.give (by omega) h hf hp).1, by simp, .inr ⟨hf, hp⟩⟩
theorem BxOk.move {m : Box} (h : BxOk m) (a b : Int) :
  BxOk (boxMove m a b).1 ∧ (boxMove m a b).1.l.length = m.l.length ∧ (boxMove m a b).1.l.flatten.Perm m.l.flatten := by
 unfold boxMove
 split
 ·exact ⟨h, rfl, List.Perm.refl _⟩
 rename_i hm
 have hm2 : may2 m.l.length a b = 0 := Classical.not_not.1 hm
 clear hm;unfold may2 at hm2
 have ha : mayF m.l.length a = 0 := Classical.byContradiction fun e => by
  rw [if_pos e] at hm2
  exact e hm2
 rw [if_neg (by simp [ha])] at hm2
 obtain ⟨i, rfl, hi⟩ := may_yes ha
 obtain ⟨j, rfl, hj⟩ := may_yes hm2
 split
 ·exact ⟨h, rfl, List.Perm.refl _⟩
 rename_i hne
 have hne : i ≠ j := fun e => hne (by rw [e])
 rw [Int.toNat_natCast, Int.toNat_natCast]
 cases hl : m.l.getD i [] with
 | nil =>
  have e : m.l.set i [] = m.l := by rw [← hl]; exact put_same _ _ _ hi
  simp only [popF, e]
  exact ⟨h, rfl, List.Perm.refl _⟩
 | cons x t =>
  simp only [popF, ne_eq, not_true, if_false]
  unfold boxMoveTo;dsimp only
  have hmem : x ∈ m.l.getD i [] := by rw [hl]; simp
  have et : t = (m.l.getD i []).erase x := by rw [hl]; simp
  have hf := (sub_flat m.l i).subset hmem
  have hnj : x ∉ m.l.getD j [] := fun e => hne (flat_once h.nd hmem e)
  rw [nth_off hne, Own.room h (h.rng hf) hnj];dsimp only;rw [et]
  have hperm : ((m.l.set i ((m.l.getD i []).erase x)).set j (m.l.getD j [] ++ [x])).flatten.Perm m.l.flatten := by
   have p1 := flat_add (m.l.set i ((m.l.getD i []).erase x)) j x (by simp; omega)
   rw [nth_off hne] at p1
   have p2 := flat_drop hi hmem
   exact p1.trans ((p2.append_right [x]).trans (List.perm_append_comm.trans (List.perm_cons_erase hf).symm))
  exact ⟨Own.perm h hperm, by simp, hperm⟩
def thT (t : Threads) (id : Int) : Option (Bool × Int) := (mget t.all id).map fun x => (x.sleeps, x.timer)
structure ThOk (th : Threads) (own wh : List (Int × Int)) : Prop where
 ids : Own 32 th.ids [th.all.map Prod.fst]
 nd : (own.map Prod.fst).Nodup
 slp : ∀ id t, thT th id = some (true, t) → mget own t = some id ∧ (mget wh t).isSome = true ∧ 1 ≤ t
 own : ∀ t id, mget own t = some id → thT th id = some (true, t)
 awk : ∀ id t, thT th id = some (false, t) → t = 0
theorem ThOk.start (cpus : Int) (wh : List (Int × Int)) : ThOk ⟨⟨0, 0⟩, cpus, []⟩ [] wh :=
 ⟨Own.start 32 1, List.nodup_nil, fun id t h => by simp [thT, mget] at h, fun t id h => by simp [mget] at h, fun id t h => by simp [thT, mget] at h⟩
theorem ThOk.keys {th : Threads} {own wh : List (Int × Int)} (h : ThOk th own wh) : (th.all.map Prod.fst).Nodup := by
 have := h.ids.nd
 simpa using this
theorem ThOk.id_in {th : Threads} {own wh : List (Int × Int)} (h : ThOk th own wh) {id : Int} (hs : (mget th.all id).isSome = true) : 1 ≤ id ∧ id ≤ 32 :=
 h.ids.rng (by simpa using mget_some_iff.1 hs)
theorem ThOk.own_pos {th : Threads} {own wh : List (Int × Int)} (h : ThOk th own wh) {t id : Int} (ho : mget own t = some id) : 1 ≤ id ∧ (mget wh t).isSome = true := by
 have h1 := h.own t id ho
 have h2 := h.slp id t h1
 refine ⟨?_, h2.2.1⟩
 have hs : (mget th.all id).isSome = true := by
  unfold thT at h1
  cases hg : mget th.all id with
  | none => rw [hg] at h1; cases h1
  | some x => rfl
 exact (h.id_in hs).1
theorem ThOk.same {th th' : Threads} {own wh : List (Int × Int)} (h : ThOk th own wh) (hi : th'.ids = th.ids) (hk : th'.all.map Prod.fst = th.all.map Prod.fst) (ht : ∀ id, thT th' id = thT th id) : ThOk th' own wh :=
 ⟨by rw [hi, hk]; exact h.ids, h.nd, fun id t e => h.slp id t (by rw [← ht]; exact e), fun t id e => by rw [ht]; exact h.own t id e, fun id t e => h.awk id t (by rw [← ht]; exact e)⟩
theorem thT_put (th : Threads) (id : Int) (x : Thread) (j : Int) : thT ⟨th.ids, th.cpus, mput th.all id x⟩ j = if id = j then some (x.sleeps, x.timer) else thT th j := by
 unfold thT;dsimp only;rw [mput_get]
 split
 ·rfl
 ·rfl
theorem ThOk.wheres {th : Threads} {own wh wh' : List (Int × Int)} (h : ThOk th own wh) (hw : ∀ t, (mget own t).isSome = true → (mget wh t).isSome = true → (mget wh' t).isSome = true) : ThOk th own wh' :=
 ⟨h.ids, h.nd, fun id t e => by obtain ⟨a, b, c⟩ := h.slp id t e; exact ⟨a, hw t (by rw [a]; rfl) b, c⟩, h.own, h.awk⟩
theorem ThOk.sleep {th : Threads} {own wh : List (Int × Int)} (h : ThOk th own wh) {id t : Int} {x : Thread} (hx : mget th.all id = some x) (hs : x.sleeps = false) (hw : mget wh t = none) (ht : 1 ≤ t) (cpu : Int) :
  (thSleep th id t).2 = 0 ∧ ThOk (thSleep th id t).1 (mput own t id) (mput wh t cpu) := by
 have hno : mget own t = none := by
  cases ho : mget own t with
  | none => rfl
  | some j => have := (h.own_pos ho).2; rw [hw] at this; exact absurd this (by decide)
 unfold thSleep;rw [hx];dsimp only
 rw [if_neg (by simp [hs])]
 have hT : ∀ j, thT ⟨th.ids, th.cpus, mput th.all id ⟨x.prio, x.mask, x.cpu, x.forced, true, t⟩⟩ j = if id = j then some (true, t) else thT th j := fun j => thT_put th id _ j
 refine ⟨rfl, ⟨?_, mput_nodup h.nd, fun j u e => ?_, fun u j e => ?_, fun j u e => ?_⟩⟩
 ·show Own 32 th.ids [(mput th.all id _).map Prod.fst]
  rw [mput_keys_old (by rw [hx]; rfl)]
  exact h.ids
 ·rw [hT] at e
  split at e
  ·rename_i ej
   simp only [Option.some.injEq, Prod.mk.injEq, true_and] at e
   subst e ej
   exact ⟨by rw [mput_get]; simp, by rw [mput_get]; simp, ht⟩
  ·obtain ⟨a, b, c⟩ := h.slp j u e
   have hne : ¬ t = u := fun eu => by rw [eu, a] at hno; cases hno
   exact ⟨by rw [mput_get, if_neg hne]; exact a, by rw [mput_get, if_neg hne]; exact b, c⟩
 ·rw [mput_get] at e
  rw [hT]
  split at e
  ·rename_i eu
   have e : id = j := by simpa using e
   subst e eu
   simp
  ·have := h.own u j e
   have hne : ¬ id = j := fun ej => by
    subst ej
    simp [thT, hx, hs] at this
   rw [if_neg hne]
   exact this
 ·rw [hT] at e
  split at e
  ·cases e
  ·exact h.awk j u e
theorem ThOk.less {th : Threads} {own wh : List (Int × Int)} (h : ThOk th own wh) (hn : (wh.map Prod.fst).Nodup) {t : Int} (ho : mget own t = none) : ThOk th own (mdel wh t) ∧ ThOk th (mdel own t) (mdel wh t) := by
 have h1 : ThOk th own (mdel wh t) := h.wheres fun u hu hw => by
  rw [mdel_get hn]
  split
  ·rename_i e; rw [← e, ho] at hu; exact absurd hu (by decide)
  ·exact hw
 refine ⟨h1, ?_⟩
 rw [mdel_none ho]
 exact h1
theorem ThOk.wake {th : Threads} {own wh : List (Int × Int)} (h : ThOk th own wh) (hn : (wh.map Prod.fst).Nodup) {id t : Int} (ho : mget own t = some id) : ThOk (thWake th id).1 (mdel own t) (mdel wh t) := by
 have h1 := h.own t id ho
 have hx : ∃ x, mget th.all id = some x ∧ x.sleeps = true ∧ x.timer = t := by
  unfold thT at h1
  cases hg : mget th.all id with
  | none => rw [hg] at h1; cases h1
  | some x => rw [hg] at h1; exact ⟨x, rfl, by simpa using h1⟩
 obtain ⟨x, hx, hs, htm⟩ := hx;unfold thWake;rw [hx];dsimp only;rw [if_pos hs]
 have hT : ∀ j, thT ⟨th.ids, th.cpus, mput th.all id ⟨x.prio, x.mask, x.cpu, x.forced, false, 0⟩⟩ j = if id = j then some (false, 0) else thT th j := fun j => thT_put th id _ j
 refine ⟨?_, mdel_nodup h.nd, fun j u e => ?_, fun u j e => ?_, fun j u e => ?_⟩
 ·show Own 32 th.ids [(mput th.all id _).map Prod.fst]
  rw [mput_keys_old (by rw [hx]; rfl)]
  exact h.ids
 ·rw [hT] at e
  split at e
  ·cases e
  ·rename_i hne
   obtain ⟨a, b, c⟩ := h.slp j u e
   have hne2 : ¬ t = u := fun eu => by subst eu; rw [ho] at a; exact hne (by simpa using a)
   exact ⟨by rw [mdel_get h.nd, if_neg hne2]; exact a, by rw [mdel_get hn, if_neg hne2]; exact b, c⟩
 ·rw [mdel_get h.nd] at e
  rw [hT]
  split at e
  ·cases e
  ·rename_i hne
   have hne2 : ¬ id = j := fun ej => by
    subst ej
    have := h.own u id e
    rw [h1] at this
    exact hne (by simpa using this)
   rw [if_neg hne2]
   exact h.own u j e
 ·rw [hT] at e
  split at e
  ·simpa using e.symm
  ·exact h.awk j u e
theorem ThOk.exit {th : Threads} {own wh : List (Int × Int)} (h : ThOk th own wh) {id : Int} {x : Thread} (hx : mget th.all id = some x) (hs : x.sleeps = false) : (thExit th id).2 = 0 ∧ ThOk (thExit th id).1 own wh := by
 have hmem : id ∈ [th.all.map Prod.fst].flatten := by simpa using mget_some_iff.1 (by rw [hx]; rfl)
 unfold thExit;rw [hx];dsimp only
 obtain ⟨o1, o2⟩ := h.ids.give (L' := [(mdel th.all id).map Prod.fst]) (by omega) hmem (by rw [mdel_keys]; simp)
 have hT : ∀ j, thT ⟨(slotGive 32 th.ids id).1, th.cpus, mdel th.all id⟩ j = if id = j then none else thT th j := fun j => by
  unfold thT;dsimp only;rw [mdel_get h.keys]
  split <;> rfl
 refine ⟨o2, o1, h.nd, fun j u e => ?_, fun u j e => ?_, fun j u e => ?_⟩
 ·rw [hT] at e
  split at e
  ·cases e
  ·exact h.slp j u e
 ·rw [hT]
  have h1 := h.own u j e
  rw [if_neg (fun ej => by subst ej; simp [thT, hx, hs] at h1)]
  exact h1
 ·rw [hT] at e
  split at e
  ·cases e
  ·exact h.awk j u e
theorem ThOk.exit_asleep {th : Threads} {own wh : List (Int × Int)} (h : ThOk th own wh) (hn : (wh.map Prod.fst).Nodup) {id : Int} {x : Thread} (hx : mget th.all id = some x) (hs : x.sleeps = true) : (thExit th id).2 = 0 ∧ ThOk (thExit th id).1 (mdel own x.timer) (mdel wh x.timer) := by
 have h1 : thT th id = some (true, x.timer) := by simp [thT, hx, hs]
 have ho := (h.slp id x.timer h1).1
 have hw := h.wake hn ho
 have hx2 : (thWake th id).1 = ⟨th.ids, th.cpus, mput th.all id ⟨x.prio, x.mask, x.cpu, x.forced, false, 0⟩⟩ := by simp [thWake, hx, hs]
 have hg : mget (thWake th id).1.all id = some ⟨x.prio, x.mask, x.cpu, x.forced, false, 0⟩ := by rw [hx2]; dsimp only; rw [mput_get]; simp
 have h2 := hw.exit hg rfl
 have e : thExit (thWake th id).1 id = thExit th id := by
  unfold thExit;rw [hg, hx, hx2];dsimp only
  congr 2
  exact mdel_mput (by rw [hx]; rfl)
 rw [e] at h2
 exact h2
theorem ThOk.spawn {th : Threads} {own wh : List (Int × Int)} (h : ThOk th own wh) (prio : Int) (m : Nat) : ThOk (thSpawn th prio m).1 own wh ∧ ((thSpawn th prio m).2.2 = 0 → 1 ≤ (thSpawn th prio m).2.1) := by
 unfold thSpawn
 split
 ·exact ⟨h, fun e => absurd e (show (2 : Int) ≠ 0 by decide)⟩
 by_cases he : (slotTake 32 th.ids).2.2 = 0
 ·rw [if_neg (by simp [he])]
  dsimp only
  have hp : ∀ id, mget th.all id = none → [(mput th.all id (⟨prio, m, 0, false, false, 0⟩ : Thread)).map Prod.fst].flatten.Perm ([th.all.map Prod.fst].flatten ++ [id]) := fun id hn => by
   rw [mput_keys_new hn]
   simp
  have hn : mget th.all (slotTake 32 th.ids).2.1 = none := by
   obtain ⟨c, h1, h2, h3, h4⟩ := slotTake_ok (by omega) h.ids.ok he
   cases hg : mget th.all (slotTake 32 th.ids).2.1 with
   | none => rfl
   | some x =>
    have hm : (slotTake 32 th.ids).2.1 ∈ [th.all.map Prod.fst].flatten := by simpa using mget_some_iff.1 (by rw [hg]; rfl)
    rw [h3] at hm
    obtain ⟨j, -, j2, j3⟩ := slotHas_iff.1 ((h.ids.mem _).2 hm)
    have : j = c := by have j2 : (c : Int) + 1 = j + 1 := j2; omega
    rw [this, h2] at j3
    exact absurd j3 (by decide)
  obtain ⟨o1, o2, o3, o4⟩ := h.ids.take (L' := [(mput th.all (slotTake 32 th.ids).2.1 (⟨prio, m, 0, false, false, 0⟩ : Thread)).map Prod.fst]) (by omega) he (hp _ hn)
  generalize (slotTake 32 th.ids).2.1 = id at *
  have hT : ∀ j, thT ⟨(slotTake 32 th.ids).1, th.cpus, mput th.all id ⟨prio, m, 0, false, false, 0⟩⟩ j = if id = j then some (false, 0) else thT th j := fun j => by
   unfold thT;dsimp only;rw [mput_get]
   split <;> rfl
  refine ⟨⟨o1, h.nd, fun j u e => ?_, fun u j e => ?_, fun j u e => ?_⟩, fun _ => o3⟩
  ·rw [hT] at e
   split at e
   ·cases e
   ·exact h.slp j u e
  ·have h1 := h.own u j e
   rw [hT, if_neg (fun ej => by subst ej; simp [thT, hn] at h1)]
   exact h1
  ·rw [hT] at e
   split at e
   ·simpa using e.symm
   ·exact h.awk j u e
 ·rw [if_pos he]
  dsimp only;rw [slotTake_bad he]
  exact ⟨h, fun e => absurd e he⟩
end Go.Proofs.YtiocbpabbjgkhaaGreatDoor
