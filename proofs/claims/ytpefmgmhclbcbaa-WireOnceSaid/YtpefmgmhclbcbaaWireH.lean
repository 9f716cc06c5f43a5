/- known of layer 26, and the walk of WireBack. Condition: the row's own bounds on a slice that came in. -/
import Derived.Test.YtpefmgmhclbcbaaWireG
import Derived.Laws.BytesArg
import Derived.Test.YtpefmgmhclbcbaaOpenB
namespace Go.Proofs.Ytpefmgmhclbcbaa.WireH
open Go.RowKit Go.Proofs.Ytpefmgmhclbcbaa.Frame Go.Proofs.Ytpefmgmhclbcbaa.WireA Go.Proofs.Ytpefmgmhclbcbaa.WireB Go.Proofs.Ytpefmgmhclbcbaa.WireC Go.Proofs.Ytpefmgmhclbcbaa.WireD Go.Proofs.Ytpefmgmhclbcbaa.WireE Go.Proofs.Ytpefmgmhclbcbaa.WireF Go.Proofs.Ytpefmgmhclbcbaa.WireG Go.Proofs.Ytpefmgmhclbcbaa.Open Go.Proofs.Ytpefmgmhclbcbaa.OpenB
set_option linter.unusedVariables false
set_option linter.unusedSimpArgs false
theorem s64_in (m : Int) : In64 (s64 m) := by unfold In64 s64 wrap64; omega
theorem s64_0 : s64 0 = 0 := by unfold s64 wrap64; omega
theorem ns_in {cpu id mask n : Int} (h0 : In64 cpu) (h1 : In64 id) (h3 : In64 n) : ∀ i, i < 4 → In64 (nsOf cpu id mask n i) := by
  intro i hi
  rcases (by omega : i = 0 ∨ i = 1 ∨ i = 2 ∨ i = 3) with rfl | rfl | rfl | rfl
  · exact h0
  · exact h1
  · exact s64_in mask
  · exact h3
theorem width200 : width 200 = 2 := by decide
theorem put200 : putL 2 (nsOf 0 0 0 200) = [2, 8, 2, 0, 200] := by
  simp [putL, whichN, bodyN, nsOf, s64_0, numL, width200, pw, bytesOf, byteAt, p8]
theorem in200 : ∀ i, i < 4 → In64 (nsOf 0 0 0 200 i) := ns_in (by unfold In64; omega) (by unfold In64; omega) (by unfold In64; omega)
theorem u64_s64 {m : Int} (h : 0 ≤ m ∧ m ≤ 18446744073709551615) : u64 (s64 m) = m := by
  unfold u64 s64 wrap64
  rw [IntKind.wrap_u64]
  omega
theorem evN_of (k cpu id mask n : Int) (h : 0 ≤ mask ∧ mask ≤ 18446744073709551615) : evN k (fun j => if j < 4 then nsOf cpu id mask n j else 0) = .agg #[.int .i64 k, .int .i64 cpu, .int .i64 id, .int .u64 mask, .int .i64 n] := by
  show Value.agg #[.int .i64 k, .int .i64 cpu, .int .i64 id, .int .u64 (u64 (s64 mask)), .int .i64 n] = _
  rw [u64_s64 h]
/-- What is got of what was put, whatever stands behind it. -/
theorem got (k cpu id mask n : Int) (hk : 1 ≤ k ∧ k ≤ 30) (h0 : In64 cpu) (h1 : In64 id) (h2 : 0 ≤ mask ∧ mask ≤ 18446744073709551615) (h3 : In64 n) (more : List Int) :
    (get (putL k (nsOf cpu id mask n) ++ more)).1.why = 0 ∧ evN (s2 (putL k (nsOf cpu id mask n) ++ more)).1 (get (putL k (nsOf cpu id mask n) ++ more)).2 = .agg #[.int .i64 k, .int .i64 cpu, .int .i64 id, .int .u64 mask, .int .i64 n] ∧
    (get (putL k (nsOf cpu id mask n) ++ more)).1.l = more := by
  obtain ⟨e1, _, e3⟩ := get_put k (nsOf cpu id mask n) hk (ns_in h0 h1 h3) more
  rw [e1, e3]
  exact ⟨rfl, evN_of k cpu id mask n h2, rfl⟩
theorem get200 : (get [2, 8, 2, 0, 200]).1.why = 0 ∧ evN (s2 [2, 8, 2, 0, 200]).1 (get [2, 8, 2, 0, 200]).2 = .agg #[.int .i64 2, .int .i64 0, .int .i64 0, .int .u64 0, .int .i64 200] ∧ (get [2, 8, 2, 0, 200]).1.l = [] := by
  have h := got 2 0 0 0 200 (by omega) (by unfold In64; omega) (by unfold In64; omega) (by omega) (by unfold In64; omega) []
  rwa [put200, List.append_nil] at h
theorem bytes_str {H : Nat} {w : World} {b off cap : Nat} {l : List Int} (h : BytesAt H w (some ⟨b, off, none⟩) cap l) : (convert 41 9 (.slice (some ⟨b, off, none⟩) l.length cap)).run Try.prog w = .ok (.string (strOfNums l)) w := by
  refine run_convert_bytes_arg w 41 5 Try.underlying41 Try.underlying5 b off l.length cap l rfl (fun i hi => ?_) 9 Try.underlying9
  obtain ⟨b2, off2, e, _, hall⟩ := h.2.2 (by intro e; rw [e] at hi; simp at hi)
  obtain ⟨rfl, rfl⟩ : b = b2 ∧ off = off2 := by simpa using e
  exact hall i _ (by rw [List.getD_eq_getElem?_getD]; simp [hi])
set_option maxRecDepth 100000 in
set_option maxHeartbeats 2000000 in
theorem known_ok (w : World) : Calls Try.prog 24 #[] w fun e w' => e = .returned (.bool true) ∧ Below w.heap.size w w' := by
  go_enter Try.func24, Try.ntmps24
  go_wp2_with fail
  refine (put_yes 2 0 0 0 200 w (by omega) (by omega) in200).mono ?_
  rintro e w1 ⟨v, rfl, hO, hb1⟩
  rw [put200] at hO
  obtain ⟨g, cap, rfl, hg1, hg2, hg3, hg4, hcells, hfz⟩ := hO.form (by simp)
  obtain ⟨a, c, e1, hA⟩ := hO.at
  obtain ⟨rfl, rfl⟩ : a = some ⟨g, 0, none⟩ ∧ c = cap := by simpa using e1.symm
  have HA := Lib.hid hA
  have HB1 := Lib.hid hb1
  have HC := Lib.hid hcells
  clear hO e1 hfz hb1 hcells hA
  go_wp2_with fail
  refine (get_any w1 _ _ [2, 8, 2, 0, 200] HA.out (by unfold IsB; decide)).mono ?_
  rintro e w2 ⟨h, hb2⟩
  obtain ⟨p1, p2, p3⟩ := get200
  rcases h with ⟨h, _⟩ | ⟨_, rfl⟩
  · exact absurd p1 h
  rw [p2, p3]
  have hstr : (convert 41 9 (.slice (some ⟨g, 0, none⟩) 5 c)).run Try.prog (w2.alloc (.cells #[.int .i64 2, .int .i64 0, .int .i64 0, .int .u64 0, .int .i64 200] 40)) = .ok (.string ⟨#[2, 8, 2, 0, 200]⟩) (w2.alloc (.cells #[.int .i64 2, .int .i64 0, .int .i64 0, .int .u64 0, .int .i64 200] 40)) :=
    bytes_str (l := [2, 8, 2, 0, 200]) (HA.out.ch ((Ch.of_below (F := fun _ => False) hb2).alloc _) (Nat.le_refl _) (fun _ _ => id))
  go_wp2_with fail
  go_returns
  exact ⟨rfl, HB1.out.trans ((hb2.alloc hb2.size _).mono HB1.out.size)⟩
set_option maxRecDepth 100000 in
set_option maxHeartbeats 4000000 in
theorem back_no (W : World) (k cpu id mask n : Int) (hk : k < 1 ∨ 30 < k) (a : Option Addr) (len cap : Nat) :
    Calls Try.prog 6 #[.agg #[.int .i64 k, .int .i64 cpu, .int .i64 id, .int .u64 mask, .int .i64 n], .slice a len cap] W fun e W' => e = .returned (.bool true) ∧ Below W.heap.size W W' := by
  rcases hk with hk | hk
  all_goals
    go_enter Try.func6, Try.ntmps6
    go_wp2_with fail
    refine (put_no k cpu id mask n _ (by omega)).mono ?_
    rintro e w1 ⟨v, rfl, hO, hb1⟩
    rcases hO with ⟨h0, ⟨rfl, h1⟩ | ⟨g, cap2, cur, rfl, hb, hc, hcap, hm, hs, ht⟩⟩
    all_goals
      have hx0 : w1.cell? ⟨W.heap.size, 0, none⟩ = some (.int .i64 k) := keepcell hb1 (by go_simp)
      go_wp2_with (go_at_call 24; refine (known_ok _).mono ?_; rintro e w2 ⟨rfl, hb2⟩)
      go_returns
      exact ⟨rfl, (((Below.refl _ _).alloc (Nat.le_refl _) _).trans (hb1.mono (by simp))).trans (hb2.mono (by have := hb1.size; simp at this; omega))⟩
theorem numL_isB (n : Int) : IsB (numL n) := by
  unfold numL
  split
  · intro b hb; cases hb
  · intro b hb
    have := width_lo n
    rcases List.mem_cons.1 hb with rfl | hb
    · omega
    · exact bytes_isB _ _ b hb
theorem numL_len (n : Int) : (numL n).length ≤ 9 := by
  unfold numL
  split
  · simp
  · have := width_lo n
    simp [bytes_len]
    omega
theorem isB_app {a b : List Int} (h : IsB a) (k : IsB b) : IsB (a ++ b) := fun x hx => (List.mem_append.1 hx).elim (h x) (k x)
theorem put_isB (k : Int) (ns : Nat → Int) : IsB (putL k ns) := by
  unfold putL
  split
  · rename_i hk
    have hw := which_bd ns
    intro b hb
    rcases List.mem_cons.1 hb with rfl | hb
    · omega
    · rcases List.mem_cons.1 hb with rfl | hb
      · omega
      · exact isB_app (isB_app (isB_app (isB_app (fun x hx => by cases hx) (numL_isB _)) (numL_isB _)) (numL_isB _)) (numL_isB _) b hb
  · intro b hb; cases hb
theorem put_len (k : Int) (ns : Nat → Int) : (putL k ns).length ≤ 38 := by
  unfold putL
  split
  · have h0 := numL_len (ns 0)
    have h1 := numL_len (ns 1)
    have h2 := numL_len (ns 2)
    have h3 := numL_len (ns 3)
    simp [bodyN]
    omega
  · simp
theorem put_ne {k : Int} (ns : Nat → Int) (h : 1 ≤ k ∧ k ≤ 30) : putL k ns ≠ [] := by
  unfold putL
  rw [if_pos h]
  simp
set_option maxRecDepth 100000 in
set_option maxHeartbeats 4000000 in
theorem back_yes (W : World) (k cpu id mask n : Int) (hk : 1 ≤ k ∧ k ≤ 30) (h0 : In64 cpu) (h1 : In64 id) (h2 : 0 ≤ mask ∧ mask ≤ 18446744073709551615) (h3 : In64 n) (a : Option Addr) (cap : Nat) (M : List Int) (hM : BytesAt W.heap.size W a cap M) (hMB : IsB M) (hnil : a = none → cap = 0) :
    Calls Try.prog 6 #[.agg #[.int .i64 k, .int .i64 cpu, .int .i64 id, .int .u64 mask, .int .i64 n], .slice a M.length cap] W fun e W' => e = .returned (.bool true) ∧ Below W.heap.size W W' := by
  obtain ⟨g1, g2, g3⟩ := got k cpu id mask n hk h0 h1 h2 h3 M
  have hpb := put_isB k (nsOf cpu id mask n)
  have hpl := put_len k (nsOf cpu id mask n)
  have hpn := put_ne (nsOf cpu id mask n) hk
  have hlenE : (((putL k (nsOf cpu id mask n) ++ M).length : Int) - (M.length : Int)) = ((putL k (nsOf cpu id mask n)).length : Int) := by rw [List.length_append]; omega
  have PUT := Lib.hid (fun w => put_yes k cpu id mask n w hk.1 hk.2 (ns_in h0 h1 h3))
  have G1 := Lib.hid g1
  have G2 := Lib.hid g2
  have G3 := Lib.hid g3
  have PB := Lib.hid hpb
  have PN := Lib.hid hpn
  have PE := Lib.hid hlenE
  have HM := Lib.hid hM
  have MB := Lib.hid hMB
  have NIL := Lib.hid hnil
  have hm1 := hM.1
  obtain ⟨hk1, hk2⟩ := hk
  clear g1 g2 g3 hpb hpn hlenE hM hMB hnil h0 h1 h2 h3
  generalize hP : putL k (nsOf cpu id mask n) = P at *
  have HP := Lib.hid hP
  clear hP
  go_enter Try.func6, Try.ntmps6
  go_wp2_with fail
  refine (PUT.out _).mono ?_
  rintro e w1 ⟨v, rfl, hO, hb1⟩
  obtain ⟨g, cap2, rfl, q1, q2, q3, q4, hcells, hfz⟩ := hO.form PN.out
  have HB1 : Hid (Below W.heap.size W w1) := Lib.hid (((Below.refl _ _).alloc (Nat.le_refl _) _).trans (hb1.mono (by simp)))
  have hblk : Blk w1 W.heap.size #[.int .i64 k, .int .i64 cpu, .int .i64 id, .int .u64 mask, .int .i64 n] 40 := by
    refine Blk.ch (w := W.alloc (.cells #[.int .i64 k, .int .i64 cpu, .int .i64 id, .int .u64 mask, .int .i64 n] 40)) ?_ (Ch.of_below (F := fun _ => False) hb1) (fun h => h)
    unfold Blk World.alloc
    dsimp only
    rw [Array.getElem?_push, if_pos rfl]
  have HBK := Lib.hid hblk
  have HO := Lib.hid hO
  have hx0 : w1.cell? ⟨W.heap.size, 0, none⟩ = some (.int .i64 k) := hblk.cell 0
  have hz1 : W.heap.size + 1 ≤ w1.heap.size := by have := hb1.size; simpa using this
  have HPA : Hid (BytesAt w1.heap.size w1 (some ⟨g, 0, none⟩) cap2 P) := Lib.hid (by
    obtain ⟨a', c', e', hA'⟩ := hO.at
    obtain ⟨rfl, rfl⟩ : a' = some ⟨g, 0, none⟩ ∧ c' = cap2 := by simpa using e'.symm
    exact hA')
  clear hb1 hblk hO hcells hfz
  by_cases hl : 1000 < M.length
  · go_wp2_with (go_at_call 24; refine (known_ok _).mono ?_; rintro e w2 ⟨rfl, hb2⟩)
    go_returns
    exact ⟨rfl, HB1.out.trans (hb2.mono HB1.out.size)⟩
  · have hl2 : M.length ≤ 1000 := by omega
    go_wp2_with (at_builtin; refine append_bytes rfl (.tmp 30) (.tmp 31) rfl w1.heap.size _ [] rfl (OwnB.nil _ _) _ _ P rfl HPA.out (fun h => by cases h) ?_ ?_ ?_)
    · simp; omega
    · exact Nat.le_refl _
    intro v2 w2 hO2 hg2
    have HO2 : Hid (OwnB w1.heap.size w2 v2 P) := Lib.hid hO2
    have HB2 : Hid (Below w1.heap.size w1 w2) := Lib.hid (below_grown (Below.refl _ _) (OwnB.nil _ _) hg2 (Nat.le_refl _))
    have HM2 : Hid (BytesAt w2.heap.size w2 a cap M) := Lib.hid ((HM.out.ch (Ch.of_below (F := fun _ => False) (HB1.out.trans (HB2.out.mono HB1.out.size))) (Nat.le_refl _) (fun _ _ h => h)).mono (Nat.le_trans HB1.out.size HB2.out.size))
    have hz2 := HB2.out.size
    clear hO2 hg2
    go_wp2_with (at_builtin; refine append_bytes rfl (.tmp 33) (.tmp 34) rfl w1.heap.size _ P rfl HO2.out _ _ M rfl HM2.out NIL.out ?_ ?_ ?_)
    · omega
    · exact hz2
    intro v3 w3 hO3 hg3
    have HB3 : Hid (Below w1.heap.size w1 w3) := Lib.hid (below_grown HB2.out HO2.out hg3 hz2)
    obtain ⟨a3, c3, e3, hA3⟩ := hO3.at
    subst e3
    have HA3 := Lib.hid hA3
    have hz3 := HB3.out.size
    have PAB := Lib.hid (isB_app PB.out MB.out)
    clear hO3 hg3 hA3
    generalize P ++ M = A at *
    go_wp2_with fail
    refine (get_any w3 _ _ A HA3.out PAB.out).mono ?_
    rintro e w4 ⟨h, hb4⟩
    rcases h with ⟨h, _⟩ | ⟨_, rfl⟩
    · exact absurd G1.out h
    rw [G2.out, G3.out, PE.out]
    have hbk := (HBK.out.ch (Ch.of_below (F := fun _ => False) (HB3.out.trans (hb4.mono hz3))) (fun h => h))
    have y0 : w4.cell? ⟨W.heap.size, 0, none⟩ = some (.int .i64 k) := hbk.cell 0
    have y1 : w4.cell? ⟨W.heap.size, 1, none⟩ = some (.int .i64 cpu) := hbk.cell 1
    have y2 : w4.cell? ⟨W.heap.size, 2, none⟩ = some (.int .i64 id) := hbk.cell 2
    have y3 : w4.cell? ⟨W.heap.size, 3, none⟩ = some (.int .u64 mask) := hbk.cell 3
    have y4 : w4.cell? ⟨W.heap.size, 4, none⟩ = some (.int .i64 n) := hbk.cell 4
    have hlt4 : W.heap.size < w4.heap.size := hbk.lt
    have HB4 : Hid (Below W.heap.size W w4) := Lib.hid (HB1.out.trans ((HB3.out.trans (hb4.mono hz3)).mono HB1.out.size))
    have hz4 := hb4.size
    clear hb4 hbk hx0
    go_wp2_with (go_at_call 24; refine (known_ok _).mono ?_; rintro e w5 ⟨rfl, hb5⟩)
    go_returns
    exact ⟨rfl, (HB4.out.alloc HB4.out.size _).trans (hb5.mono (by have := HB4.out.size; simp; omega))⟩
theorem bytes_of {W : World} {a : Option Addr} {len cap : Nat} {z : Nat → Int} (row : IsInts W a len .u8 z) (le : len ≤ cap) (hc : cap ≤ maxLen) :
    ((List.range len).map z).length = len ∧ BytesAt W.heap.size W a cap ((List.range len).map z) ∧ IsB ((List.range len).map z) := by
  have hl : ((List.range len).map z).length = len := by simp
  refine ⟨hl, ⟨by rw [hl]; exact le, hc, fun hn => ?_⟩, fun b hb => ?_⟩
  · have hp : 0 < len := by
      rcases Nat.eq_zero_or_pos len with rfl | h
      · simp at hn
      · exact h
    obtain ⟨b, off, e, hb, hall⟩ := OpenB.ints_at row hp
    refine ⟨b, off, e, hb, fun i x hx => ?_⟩
    have hi : i < len := by have := (List.getElem?_eq_some_iff.1 hx).1; omega
    rw [(hall i hi).1]
    simp [hi] at hx
    rw [hx]
  · simp only [List.mem_map, List.mem_range] at hb
    obtain ⟨i, hi, rfl⟩ := hb
    obtain ⟨b, off, e, _, hall⟩ := OpenB.ints_at row (by omega)
    have := (hall i hi).2
    simp only [Lit.wf, Bool.and_eq_true, decide_eq_true_eq] at this
    exact this
theorem in64_of {n : Int} (h : (Lit.int .i64 n).wf = true) : In64 n := by
  simp only [Lit.wf, Bool.and_eq_true, decide_eq_true_eq] at h
  exact h
theorem u64_of {n : Int} (h : (Lit.int .u64 n).wf = true) : 0 ≤ n ∧ n ≤ 18446744073709551615 := by
  simp only [Lit.wf, Bool.and_eq_true, decide_eq_true_eq] at h
  exact h
theorem back_walk (W : World) (V : Nat → Value) (ok : ∀ (j : Nat) (k : FK), [FK.int .i64, .int .i64, .int .i64, .int .u64, .int .i64][j]? = some k → k.ok (V j)) (a : Option Addr) (len cap : Nat) (z : Nat → Int) (row : IsInts W a len .u8 z) (le : len ≤ cap) (hbytes : len * 1 ≤ 140737488351232) (hcap : cap ≤ maxLen ∧ (a = none → cap = 0)) :
    Calls Try.prog 6 #[.agg ((List.range 5).map (fun j => (([FK.int .i64, .int .i64, .int .i64, .int .u64, .int .i64][j]?).getD .bool).val (V j))).toArray, .slice a len cap] W fun e W' => e = .returned (.bool true) ∧ Below W.heap.size W W' := by
  show Calls Try.prog 6 #[.agg #[.int .i64 (numOf (V 0)), .int .i64 (numOf (V 1)), .int .i64 (numOf (V 2)), .int .u64 (numOf (V 3)), .int .i64 (numOf (V 4))], .slice a len cap] W _
  have o1 : In64 (numOf (V 1)) := in64_of (ok 1 _ rfl)
  have o2 : In64 (numOf (V 2)) := in64_of (ok 2 _ rfl)
  have o3 := u64_of (ok 3 _ rfl)
  have o4 : In64 (numOf (V 4)) := in64_of (ok 4 _ rfl)
  by_cases hk : 1 ≤ numOf (V 0) ∧ numOf (V 0) ≤ 30
  · obtain ⟨h1, h2, h3⟩ := bytes_of row le hcap.1
    have := back_yes W (numOf (V 0)) _ _ _ _ hk o1 o2 o3 o4 a cap _ h2 h3 hcap.2
    rwa [h1] at this
  · exact back_no W _ _ _ _ _ (by omega) a len cap
end Go.Proofs.Ytpefmgmhclbcbaa.WireH
