/- Contracts of core.New and of the document's New: a table of so many cores, all with power; else none. -/
import Derived.Test.YtpefmgmhclbcbaaProg
import Derived.Test.YtpefmgmhclbcbaaFrame
import Derived.Test.YtpefmgmhclbcbaaCoreC
import Derived.WalkKit
import Derived.Handy
import Derived.WalkLawsBesides
import Derived.WalkSpells
import Derived.Below
import Derived.OwnWalk
import Derived.Laws.OwnMore
import Derived.Lib.Hide
import Derived.Outline
namespace Go.Proofs.Ytpefmgmhclbcbaa.CoreF
open Go.RowKit Go.Proofs.Ytpefmgmhclbcbaa.Frame Go.Proofs.Ytpefmgmhclbcbaa.CoreC
set_option linter.unusedVariables false
set_option linter.unusedSimpArgs false

def cellsOf (c : CoreS) : List Value := [.bool c.power, .bool c.idle, .int .i64 c.way, .int .i64 c.since, .int .i64 c.steps, .int .i64 c.busy]
def flat (cs : List CoreS) : List Value := cs.flatMap cellsOf
theorem flat_len (cs : List CoreS) : (flat cs).length = cs.length * 6 := by
  induction cs with
  | nil => rfl
  | cons c cs ih => simp only [flat, List.flatMap_cons, List.length_append, List.length_cons] at *; rw [ih]; simp [cellsOf]; omega
theorem flat_get : ∀ (cs : List CoreS) (i : Nat) (c : CoreS), cs[i]? = some c → ∀ (j : Nat) (v : Value), (cellsOf c)[j]? = some v → (flat cs)[i * 6 + j]? = some v := by
  intro cs
  induction cs with
  | nil => intro i c h; simp at h
  | cons d cs ih =>
    intro i c h j v hj
    have hl : (cellsOf d).length = 6 := rfl
    cases i with
    | zero =>
      obtain rfl : d = c := by simpa using h
      have hjl : j < (cellsOf d).length := (List.getElem?_eq_some_iff.1 hj).1
      rw [show flat (d :: cs) = cellsOf d ++ flat cs from rfl, List.getElem?_append_left (by omega)]
      simpa using hj
    | succ i =>
      have h2 := ih i c (by simpa using h) j v hj
      rw [show flat (d :: cs) = cellsOf d ++ flat cs from rfl, List.getElem?_append_right (by omega), hl, show (i + 1) * 6 + j - 6 = i * 6 + j from by omega]
      exact h2
theorem rows_of {w : World} {g : Nat} {cur : Array Value} {e : TypeId} (h : w.heap[g]? = some (.cells cur e (0, 0))) {cs : List CoreS} (hx : cur.toList.take (cs.length * 6) = flat cs) :
    (∀ i c, cs[i]? = some c → At w g (i * 6) c) ∧ ∀ o, w.frozen? ⟨g, o, none⟩ = false := by
  have hc : ∀ j v, (flat cs)[j]? = some v → w.cell? ⟨g, j, none⟩ = some v := by
    intro j v hj
    rw [← hx, List.getElem?_take] at hj
    split at hj
    · simpa [World.cell?, h] using hj
    · simp at hj
  refine ⟨fun i c hi => ?_, fun o => by simp [World.frozen?, h]⟩
  have g := flat_get cs i c hi
  exact ⟨hc _ _ (g 0 _ rfl), hc _ _ (g 1 _ rfl), hc _ _ (g 2 _ rfl), hc _ _ (g 3 _ rfl), hc _ _ (g 4 _ rfl), hc _ _ (g 5 _ rfl)⟩

theorem info52 : (Try.prog.info? 52).map (fun i => (i.zero, i.size, i.bytes)) = some (some (.agg #[.bool false, .bool false, .int .i64 0, .int .i64 0, .int .i64 0, .int .i64 0]), 6, 40) := by kernel_rfl
theorem info48 : (Try.prog.info? 48).map (fun i => (i.zero, i.size, i.bytes)) = some (some (.agg #[.bool false, .bool false, .int .i64 0, .int .i64 0, .int .i64 0, .int .i64 0]), 6, 40) := by kernel_rfl
def onS : CoreS := ⟨true, false, 0, 0, 0, 0⟩
def upto (k n : Nat) : List CoreS := List.replicate k onS ++ List.replicate (n - k) CoreS.none
theorem upto_len {k n : Nat} (h : k ≤ n) : (upto k n).length = n := by simp [upto]; omega
theorem upto_at {k n : Nat} (h : k < n) : (upto k n)[k]? = some CoreS.none := by
  rw [upto, List.getElem?_append_right (by simp), List.length_replicate, Nat.sub_self, List.getElem?_replicate, if_pos (by omega)]
theorem upto_set {k n : Nat} (h : k < n) : (upto k n).set k onS = upto (k + 1) n := by
  rw [upto, upto, List.set_append_right _ _ (by simp), List.length_replicate, Nat.sub_self, show n - k = (n - (k + 1)) + 1 from by omega, List.replicate_succ, List.set_cons_zero, List.replicate_succ', List.append_assoc]
  rfl
/-- What New leaves. -/
def Made (w : World) (n : Nat) (e : Ending) (w' : World) : Prop :=
  ∃ tb cb cap, e = .returned (.tuple #[.pointer (some ⟨tb, 0, none⟩), .int .i64 0]) ∧ w.heap.size ≤ tb ∧ w.heap.size ≤ cb ∧ Tab w' tb cb cap (List.replicate n onS) ∧ Ch (fun _ => False) w w'

theorem new_no (w : World) (i : Int) (h : i < 1 ∨ 64 < i) : Calls Try.prog 36 #[.int .i64 i] w fun e w' => e = .returned (.tuple #[.pointer none, .int .i64 2]) ∧ w = w' := by
  rcases h with h | h
  all_goals
    go_enter Try.func36, Try.ntmps36
    go_wp2
    go_returns
    exact ⟨rfl, rfl⟩

theorem made_flat (n : Nat) : (madeCells (Value.agg #[.bool false, .bool false, .int .i64 0, .int .i64 0, .int .i64 0, .int .i64 0]).cells (n * 6)).toList = flat (upto 0 n) := by
  have hl : (flat (upto 0 n)).length = n * 6 := by rw [flat_len, upto_len (Nat.zero_le n)]
  apply List.ext_getElem?
  intro i
  by_cases hi : i < n * 6
  · have hq : (upto 0 n)[i / 6]? = some CoreS.none := by
      rw [upto, List.replicate_zero, List.nil_append, List.getElem?_replicate, if_pos (by omega)]
    have hr : i % 6 < 6 := Nat.mod_lt _ (by omega)
    have e : i = i / 6 * 6 + i % 6 := by omega
    have hm : (madeCells (Value.agg #[.bool false, .bool false, .int .i64 0, .int .i64 0, .int .i64 0, .int .i64 0]).cells (n * 6)).toList[i]? = some (#[Value.bool false, .bool false, .int .i64 0, .int .i64 0, .int .i64 0, .int .i64 0][i % 6]!) := by
      simp [madeCells, hi, Value.cells]
    rw [hm]
    generalize i / 6 = q at hq e
    generalize i % 6 = r at hr e
    subst e
    symm
    apply flat_get _ _ _ hq
    match r, hr with
    | 0, _ => rfl
    | 1, _ => rfl
    | 2, _ => rfl
    | 3, _ => rfl
    | 4, _ => rfl
    | 5, _ => rfl
  · rw [List.getElem?_eq_none (by rw [Array.length_toList, size_madeCells]; omega), List.getElem?_eq_none (by omega)]
theorem made_tab {w w1 : World} {n : Nat} (h2 : n ≤ 64)
    (hown : w1.ownsRow w.heap.size 52 6 (.slice (some ⟨w.heap.size, 0, none⟩) n n) n (madeCells (Value.agg #[.bool false, .bool false, .int .i64 0, .int .i64 0, .int .i64 0, .int .i64 0]).cells (n * 6)).toList) :
    Tab (w1.alloc (.cells #[.slice (some ⟨w.heap.size, 0, none⟩) n n] 115)) w1.heap.size w.heap.size n (upto 0 n) := by
  rw [made_flat] at hown
  obtain ⟨_, h | ⟨g, cap, cur, hv, hg, hh, hc, hm, hs, ht⟩⟩ := hown
  · simp at h
  · simp at hv
    obtain ⟨rfl, rfl⟩ := hv
    have hlt : w.heap.size < w1.heap.size := lt_of_block hh
    have e := upto_len (Nat.zero_le n)
    obtain ⟨r1, r2⟩ := rows_of (w := w1) hh (cs := upto 0 n) (by rw [e]; exact ht)
    have hb : Below w1.heap.size w1 (w1.alloc (.cells #[.slice (some ⟨w.heap.size, 0, none⟩) n n] 115)) := (Below.refl _ _).alloc (Nat.le_refl _) _
    have hc : ∀ o, (w1.alloc (.cells #[.slice (some ⟨w.heap.size, 0, none⟩) n n] 115)).cell? ⟨w.heap.size, o, none⟩ = w1.cell? ⟨w.heap.size, o, none⟩ := fun o => hb.cell hlt
    refine ⟨by rw [e]; go_simp, fun i c hi => ?_, fun o => (hb.frozen hlt).trans (r2 o), by omega, by simp, by simp; omega, by omega⟩
    obtain ⟨a0, a1, a2, a3, a4, a5⟩ := r1 i c hi
    exact ⟨(hc _).trans a0, (hc _).trans a1, (hc _).trans a2, (hc _).trans a3, (hc _).trans a4, (hc _).trans a5⟩

set_option maxRecDepth 100000 in
set_option maxHeartbeats 1000000 in
theorem new_yes (w : World) (n : Nat) (h1 : 1 ≤ n) (h2 : n ≤ 64) : Calls Try.prog 36 #[.int .i64 n] w (Made w n) := by
  obtain ⟨i0, hi, hz0, hz1, hz2⟩ := info_parts info52
  have hn1 : ¬ ((n : Int) < 1) := by omega
  have hn2 : ¬ ((n : Int) > 64) := by omega
  go_enter Try.func36, Try.ntmps36
  go_wp2_with (at_make; refine wpList_make_full _ rfl _ _ 113 rfl w.heap.size 52 i0 _ 6 Try.underlying113 hi hz0 hz1 .i64 .i64 n n n rfl rfl rfl rfl ?c2 ?c3 (Nat.le_refl _) ?_)
  case c2 => omega
  case c3 => unfold maxLen; omega
  intro w1 hown hg
  have hT := Lib.hid (made_tab h2 hown)
  have hgs : w.heap.size ≤ w1.heap.size := hg.size
  have hCh : Ch (fun _ => False) w w1 := ⟨hg.os, hg.tape, hg.output, hg.size, fun k hk _ => hg.block k hk (by simp)⟩
  have HC := Lib.hid hCh
  clear hown hg hCh hi hz0 hz1 hz2
  go_wp2
  go_loopw [21] (fun i wr => ∃ k : Nat, k ≤ n ∧ i = .int .i64 k ∧ Tab wr w1.heap.size w.heap.size n (upto k n) ∧ Ch (fun _ => False) w wr) (fun i _ => n - (intOf i).toNat)
  case atStart => exact ⟨0, Nat.zero_le _, rfl, hT.out, HC.out.alloc _⟩
  case round =>
    obtain ⟨k, hk, rfl, hTk, hCk⟩ := hrel
    have hd := hTk.hd
    rw [upto_len hk] at hd
    have hfz := hTk.free
    have hl1 := hTk.lt1
    have hl2 := hTk.lt2
    have hne := hTk.ne
    have HT := Lib.hid hTk
    have HCk := Lib.hid hCk
    clear hTk hCk hT HC
    by_cases hlt : k < n
    · obtain ⟨a0, a1, a2, a3, a4, a5⟩ := HT.out.rows k _ (upto_at hlt)
      simp only [CoreS.none] at a0 a1 a2 a3 a4 a5
      go_wp2
      go_roundw
      case rel =>
        refine ⟨k + 1, by omega, by go_num, ?_, ?_⟩
        · rw [← upto_set hlt]
          refine HT.out.set (by rw [upto_len hk]; exact hlt) _ ?_ ?_ ⟨?_, ?_, ?_, ?_, ?_, ?_⟩ ?_ ?_
          all_goals first
            | (go_simp; done)
            | (simp only [onS]; go_simp; done)
            | (intro o ho; go_simp; done)
            | (intro o; go_simp; done)
        · exact HCk.out.setCell (fun h => absurd h (Nat.lt_irrefl _)) _
      case measure => simp [intOf]; omega
    · go_wp2
      go_returns
      have e : k = n := by omega
      subst e
      refine ⟨w1.heap.size, w.heap.size, k, rfl, hgs, Nat.le_refl _, ?_, HCk.out⟩
      have := HT.out
      rw [show upto k k = List.replicate k onS from by simp [upto]] at this
      exact this

theorem rnew_no (w : World) (i : Int) (h : i < 1 ∨ 64 < i) : Calls Try.prog 37 #[.int .i64 i] w fun e w' => e = .returned (.tuple #[.pointer none, .int .i64 2]) ∧ w = w' := by
  rcases h with h | h
  all_goals
    go_enter Try.func37, Try.ntmps37
    go_wp2
    go_returns
    exact ⟨rfl, rfl⟩
theorem flat_on (k : Nat) : flat (List.replicate (k + 1) onS) = flat (List.replicate k onS) ++ cellsOf onS := by
  rw [List.replicate_succ', flat, List.flatMap_append]
  simp [flat]
set_option maxRecDepth 100000 in
set_option maxHeartbeats 1000000 in
theorem rnew_yes (w : World) (n : Nat) (h1 : 1 ≤ n) (h2 : n ≤ 64) : Calls Try.prog 37 #[.int .i64 n] w (Made w n) := by
  obtain ⟨i0, hi, hz0, hz1, hz2⟩ := info_parts info48
  have hn1 : ¬ ((n : Int) < 1) := by omega
  have hn2 : ¬ ((n : Int) > 64) := by omega
  go_enter Try.func37, Try.ntmps37
  go_wp2
  go_loopw [5] (fun i wr => ∃ (k : Nat) (v : Value), k ≤ n ∧ i = .int .i64 k ∧ wr.cell? ⟨w.heap.size, 0, none⟩ = some v ∧ wr.frozen? ⟨w.heap.size, 0, none⟩ = false ∧ wr.ownsRow (w.heap.size + 1) 48 6 v k (flat (List.replicate k onS)) ∧ w.heap.size < wr.heap.size ∧ Ch (fun _ => False) w wr) (fun i _ => n - (intOf i).toNat)
  case atStart => exact ⟨0, .slice none 0 0, Nat.zero_le _, rfl, by go_simp, by go_simp, World.ownsRow_nil _ _ _ _, by simp, (Ch.refl _ _).alloc _⟩
  case round =>
    obtain ⟨k, v, hk, rfl, hd, hf, hown, hsz, hCk⟩ := hrel
    have HCk := Lib.hid hCk
    clear hCk
    by_cases hlt : k < n
    · go_wp2_with (at_builtin; refine wpList_append_own _ rfl _ _ 84 rfl (w.heap.size + 1) 48 i0 _ 6 40 Try.underlying84 hi hz0 hz1 hz2 rfl (by decide) _ _ _ rfl (hown.alloc _) ⟨wr.heap.size, 0, none⟩ 1 1 (cellsOf onS) rfl rfl ?c1 ?c2 ?c3 ?c4 ?c5 ?_)
      case c1 =>
        intro j u hj
        match j, hj with
        | 0, hj => simp [cellsOf, onS] at hj; subst hj; simp [Addr.add]
        | 1, hj => simp [cellsOf, onS] at hj; subst hj; simp [Addr.add]
        | 2, hj => simp [cellsOf, onS] at hj; subst hj; simp [Addr.add]
        | 3, hj => simp [cellsOf, onS] at hj; subst hj; simp [Addr.add]
        | 4, hj => simp [cellsOf, onS] at hj; subst hj; simp [Addr.add]
        | 5, hj => simp [cellsOf, onS] at hj; subst hj; simp [Addr.add]
        | j + 6, hj => simp [cellsOf] at hj
      case c2 =>
        intro u hu
        simp only [cellsOf, List.mem_cons, List.not_mem_nil, or_false] at hu
        rcases hu with rfl | rfl | rfl | rfl | rfl | rfl <;> rfl
      case c3 => unfold maxLen; omega
      case c4 => omega
      case c5 => simp; omega
      intro v' w1 hown' hgrow _
      have hex : ∃ g' cap', v' = .slice (some ⟨g', 0, none⟩) (k + 1) cap' := by
        rcases hown'.2 with ⟨_, h0⟩ | ⟨g', cap', cur, hv, _⟩
        · omega
        · exact ⟨g', cap', hv⟩
      obtain ⟨g', cap', hv'⟩ := hex
      rw [hv'] at hown' ⊢
      clear hv'
      have hb : v.ownBlock ≠ some w.heap.size := by
        rcases hown.2 with ⟨rfl, _⟩ | ⟨g, cap, cur, rfl, hg, _⟩
        · simp [Value.ownBlock]
        · simp [Value.ownBlock]; omega
      have hblk : w1.heap[w.heap.size]? = wr.heap[w.heap.size]? := (hgrow.block _ (by simp; omega) (fun e => hb e.symm)).trans (Below.heap_alloc _ _ _ hsz)
      have hd1 : w1.cell? ⟨w.heap.size, 0, none⟩ = some v := (World.cell?_of_block (w := wr) hblk).trans hd
      have hf1 : w1.frozen? ⟨w.heap.size, 0, none⟩ = false := (World.frozen?_of_block (w := wr) hblk).trans hf
      have hs1 : w.heap.size < w1.heap.size := by have := hgrow.size; simp at this; omega
      have HC1 : Ch (fun _ => False) w w1 := ⟨hgrow.os.trans HCk.out.os, hgrow.tape.trans HCk.out.tape, hgrow.output.trans HCk.out.output, by have := HCk.out.size; have := hgrow.size; simp at this; omega,
        fun q hq _ => (hgrow.block q (by simp; omega) (fun e => by
          rcases hown.2 with ⟨rfl, _⟩ | ⟨g, cap, cur, rfl, hg, _⟩
          · simp [Value.ownBlock] at e
          · simp [Value.ownBlock] at e; omega)).trans ((Below.heap_alloc _ _ _ (by omega)).trans (HCk.out.block q hq (by simp)))⟩
      have H1 := Lib.hid HC1
      have H2 := Lib.hid hown'
      clear HC1 hown' hgrow hown hd hf hi hz0 hz1 hz2 hblk HCk
      go_wp2
      go_roundw
      case rel =>
        refine ⟨k + 1, .slice (some ⟨g', 0, none⟩) (k + 1) cap', by omega, by go_num, by go_simp, by go_simp, ?_, by simp; omega, H1.out.setCell (fun h => absurd h (Nat.lt_irrefl _)) _⟩
        have h3 := ownsRow_setCell_below H2.out (a := ⟨w.heap.size, 0, none⟩) (Nat.lt_succ_self _) (.slice (some ⟨g', 0, none⟩) (k + 1) cap')
        rw [flat_on]
        exact h3
      case measure => simp [intOf]; omega
    · have H2 := Lib.hid hown
      clear hown
      go_wp2
      go_returns
      have e : k = n := by omega
      subst e
      obtain ⟨_, ⟨_, h0⟩ | ⟨g, cap, cur, hv, hg, hh, hc, hm, hs, ht⟩⟩ := H2.out
      · omega
      · subst hv
        have hlg : g < wr.heap.size := lt_of_block hh
        obtain ⟨r1, r2⟩ := rows_of hh (cs := List.replicate k onS) (by rw [List.length_replicate]; exact ht)
        refine ⟨w.heap.size, g, cap, rfl, Nat.le_refl _, by omega, ?_, HCk.out⟩
        exact ⟨by rw [List.length_replicate]; exact hd, r1, r2, by omega, hsz, hlg, by rw [List.length_replicate]; exact h2⟩
end Go.Proofs.Ytpefmgmhclbcbaa.CoreF
