/- Contracts of the document's layer 26: fits, field, fields, Put, All. -/
import Derived.Test.YtpefmgmhclbcbaaWireI
namespace Go.Proofs.Ytpefmgmhclbcbaa.WireJ
open Go.RowKit Go.Proofs.Ytpefmgmhclbcbaa.Frame Go.Proofs.Ytpefmgmhclbcbaa.WireA Go.Proofs.Ytpefmgmhclbcbaa.WireB Go.Proofs.Ytpefmgmhclbcbaa.WireC Go.Proofs.Ytpefmgmhclbcbaa.WireD Go.Proofs.Ytpefmgmhclbcbaa.WireE Go.Proofs.Ytpefmgmhclbcbaa.WireF Go.Proofs.Ytpefmgmhclbcbaa.WireG Go.Proofs.Ytpefmgmhclbcbaa.WireH Go.Proofs.Ytpefmgmhclbcbaa.WireI
set_option linter.unusedVariables false
set_option linter.unusedSimpArgs false
def fits8 (n : Int) (k : Nat) : Bool := decide (8 ≤ k) || fits n k
set_option maxHeartbeats 1000000 in
theorem fits_any (n : Int) (hn : In64 n) (k : Nat) (h1 : 1 ≤ k) (h8 : k ≤ 8) (w : World) : Calls Try.prog 70 #[.int .i64 n, .int .i64 k] w fun e w' => e = .returned (.bool (fits8 n k)) ∧ w = w' := by
  rcases (by omega : k = 1 ∨ k = 2 ∨ k = 3 ∨ k = 4 ∨ k = 5 ∨ k = 6 ∨ k = 7 ∨ k = 8) with rfl | rfl | rfl | rfl | rfl | rfl | rfl | rfl
  · have hq : fits8 n 1 = (decide (-128 ≤ n) && decide (n < 128)) := by
      unfold fits8 fits
      rw [p8_1, Bool.eq_iff_iff]
      simp
      omega
    have HQ := Lib.hid hq
    clear hn hq
    go_enter Try.func70, Try.ntmps70
    go_wp2
    all_goals
      go_returns
      exact ⟨by rw [HQ.out]; first | (have h : -128 ≤ n := by assumption
                                      rw [decide_eq_true h]; rfl) | (have h : n < -128 := by assumption
                                                                     rw [decide_eq_false (by omega)]; rfl), rfl⟩
  · have hq : fits8 n 2 = (decide (-32768 ≤ n) && decide (n < 32768)) := by
      unfold fits8 fits
      rw [p8_2, Bool.eq_iff_iff]
      simp
      omega
    have HQ := Lib.hid hq
    clear hn hq
    go_enter Try.func70, Try.ntmps70
    go_wp2
    all_goals
      go_returns
      exact ⟨by rw [HQ.out]; first | (have h : -32768 ≤ n := by assumption
                                      rw [decide_eq_true h]; rfl) | (have h : n < -32768 := by assumption
                                                                     rw [decide_eq_false (by omega)]; rfl), rfl⟩
  · have hq : fits8 n 3 = (decide (-8388608 ≤ n) && decide (n < 8388608)) := by
      unfold fits8 fits
      rw [p8_3, Bool.eq_iff_iff]
      simp
      omega
    have HQ := Lib.hid hq
    clear hn hq
    go_enter Try.func70, Try.ntmps70
    go_wp2
    all_goals
      go_returns
      exact ⟨by rw [HQ.out]; first | (have h : -8388608 ≤ n := by assumption
                                      rw [decide_eq_true h]; rfl) | (have h : n < -8388608 := by assumption
                                                                     rw [decide_eq_false (by omega)]; rfl), rfl⟩
  · have hq : fits8 n 4 = (decide (-2147483648 ≤ n) && decide (n < 2147483648)) := by
      unfold fits8 fits
      rw [p8_4, Bool.eq_iff_iff]
      simp
      omega
    have HQ := Lib.hid hq
    clear hn hq
    go_enter Try.func70, Try.ntmps70
    go_wp2
    all_goals
      go_returns
      exact ⟨by rw [HQ.out]; first | (have h : -2147483648 ≤ n := by assumption
                                      rw [decide_eq_true h]; rfl) | (have h : n < -2147483648 := by assumption
                                                                     rw [decide_eq_false (by omega)]; rfl), rfl⟩
  · have hq : fits8 n 5 = (decide (-549755813888 ≤ n) && decide (n < 549755813888)) := by
      unfold fits8 fits
      rw [p8_5, Bool.eq_iff_iff]
      simp
      omega
    have HQ := Lib.hid hq
    clear hn hq
    go_enter Try.func70, Try.ntmps70
    go_wp2
    all_goals
      go_returns
      exact ⟨by rw [HQ.out]; first | (have h : -549755813888 ≤ n := by assumption
                                      rw [decide_eq_true h]; rfl) | (have h : n < -549755813888 := by assumption
                                                                     rw [decide_eq_false (by omega)]; rfl), rfl⟩
  · have hq : fits8 n 6 = (decide (-140737488355328 ≤ n) && decide (n < 140737488355328)) := by
      unfold fits8 fits
      rw [p8_6, Bool.eq_iff_iff]
      simp
      omega
    have HQ := Lib.hid hq
    clear hn hq
    go_enter Try.func70, Try.ntmps70
    go_wp2
    all_goals
      go_returns
      exact ⟨by rw [HQ.out]; first | (have h : -140737488355328 ≤ n := by assumption
                                      rw [decide_eq_true h]; rfl) | (have h : n < -140737488355328 := by assumption
                                                                     rw [decide_eq_false (by omega)]; rfl), rfl⟩
  · have hq : fits8 n 7 = (decide (-36028797018963968 ≤ n) && decide (n < 36028797018963968)) := by
      unfold fits8 fits
      rw [p8_7, Bool.eq_iff_iff]
      simp
      omega
    have HQ := Lib.hid hq
    clear hn hq
    go_enter Try.func70, Try.ntmps70
    go_wp2
    all_goals
      go_returns
      exact ⟨by rw [HQ.out]; first | (have h : -36028797018963968 ≤ n := by assumption
                                      rw [decide_eq_true h]; rfl) | (have h : n < -36028797018963968 := by assumption
                                                                     rw [decide_eq_false (by omega)]; rfl), rfl⟩
  · have HQ : Hid (fits8 n 8 = true) := Lib.hid rfl
    clear hn
    go_enter Try.func70, Try.ntmps70
    go_wp2
    go_returns
    exact ⟨by rw [HQ.out]; rfl, rfl⟩
set_option maxHeartbeats 4000000 in
theorem field_any (B : Nat) (v : Value) (l : List Int) (n : Int) (hn : In64 n) (w : World) (hO : OwnB B w v l) (hB : B ≤ w.heap.size) (hl : l.length ≤ 1000) :
    Calls Try.prog 65 #[v, .int .i64 n] w fun e w' => ∃ v', e = .returned v' ∧ OwnB B w' v' (l ++ numL n) ∧ Below B w w' := by
  have HO := Lib.hid hO
  have HN := Lib.hid hn
  have hwl := width_lo n
  obtain ⟨a0, cap0, rfl, _⟩ := hO.at
  clear hO hn
  by_cases h0 : n = 0
  · subst h0
    go_enter Try.func65, Try.ntmps65
    go_wp2
    go_returns
    exact ⟨_, rfl, by simpa [numL] using HO.out, Below.refl _ _⟩
  · have h0b : (n == 0) = false := by simpa using h0
    have HNL : Hid (numL n = (width n : Int) :: bytesOf n (width n)) := Lib.hid (by unfold numL; rw [if_neg h0])
    clear h0
    go_enter Try.func65, Try.ntmps65
    go_wp2_with fail
    go_loop [5] (fun c => ∃ k : Nat, 1 ≤ k ∧ k ≤ width n ∧ c = .int .i64 k) (fun c => 8 - (intOf c).toNat)
    case atStart => exact ⟨1, by omega, hwl.1, rfl⟩
    case round =>
      obtain ⟨k, h1, h2, rfl⟩ := hrel
      have C := Lib.hid (fun w => fits_any n HN.out k h1 (by omega) w)
      by_cases hlt : k < width n
      · have hf : fits8 n k = false := by
          unfold fits8
          rw [width_least h1 hlt, Bool.or_false]
          exact decide_eq_false (by omega)
        rw [hf] at C
        clear hf
        go_wp2_with (go_at_call 70; refine (C.out _).mono ?_; rintro e w' ⟨rfl, rfl⟩)
        go_round
        case rel => exact ⟨k + 1, by omega, by omega, by go_num⟩
        case measure => simp [intOf]; omega
      · obtain hk : width n = k := by omega
        have hf : fits8 n k = true := by
          unfold fits8
          rw [← hk, width_fits HN.out, Bool.or_true]
        rw [hf] at C
        rw [hk] at HNL hwl
        clear hf hlt h2 hk h1
        obtain ⟨q1, q2⟩ := hwl
        have q3 : (k : Int) ≤ 255 := by omega
        generalize k = m at *
        go_wp2_with (first
          | (go_at_call 70; refine (C.out _).mono ?_; rintro e w' ⟨rfl, rfl⟩)
          | (at_builtin; refine append_bytes rfl (.tmp 16) (.tmp 19) rfl B _ _ rfl (HO.out.alloc _) _ _ [(m : Int)] rfl (one_at _ _) (fun h => by cases h) ?c1 ?c2 ?c3))
        case c1 => simp; omega
        case c2 => simp; omega
        intro v3 w3 hO3 hg3
        have HO3 : Hid (OwnB B w3 v3 (l ++ ((m : Int) :: []))) := Lib.hid hO3
        have HG3 := Lib.hid (below_grown ((Below.refl B w).alloc hB _) (HO.out.alloc _) hg3 (by simp; omega))
        clear hO3 hg3 C
        have hsz3 := HG3.out.size
        go_wp2_with fail
        go_loopw [0, 6] (fun v c wi => ∃ (j : Nat) (T : List Int), j ≤ m ∧ c = .int .i64 ((j : Int) - 1) ∧ Hid (T ++ bytesOf n j = bytesOf n m) ∧ OwnB B wi v (l ++ ((m : Int) :: T)) ∧ Below B w wi) (fun _ c _ => (intOf c + 1).toNat)
        case atStart => exact ⟨m, [], Nat.le_refl _, rfl, Lib.hid rfl, HO3.out, HG3.out⟩
        case round =>
          obtain ⟨j, T, hj, rfl, HTB, hOi, hGi⟩ := hrel
          have HOi := Lib.hid hOi
          have HGi := Lib.hid hGi
          have hzi := hGi.size
          have HLT : Hid ((l ++ ((m : Int) :: T)).length ≤ 1100) := Lib.hid (by
            have h1 := congrArg List.length HTB.out
            simp only [List.length_append, bytes_len] at h1
            simp
            omega)
          clear hOi hGi HO3 HG3
          rcases (by omega : j = 0 ∨ j = 1 ∨ j = 2 ∨ j = 3 ∨ j = 4 ∨ j = 5 ∨ j = 6 ∨ j = 7 ∨ j = 8) with rfl | rfl | rfl | rfl | rfl | rfl | rfl | rfl | rfl
          · have HT : Hid (T = bytesOf n m) := Lib.hid (by have := HTB.out; simpa [bytesOf] using this)
            go_wp2
            go_returns
            exact ⟨_, rfl, by rw [HNL.out, ← HT.out]; exact HOi.out, HGi.out⟩
          · have HBY : Hid (bytesOf n 1 = byteAt n 0 :: bytesOf n 0) := Lib.hid rfl
            have HBA : Hid (IntKind.u8.wrap (n) = byteAt n 0) := Lib.hid (by rw [u8_wrap]; unfold byteAt; simp [p8])
            go_wp2_with (at_builtin; refine append_bytes rfl _ _ rfl B _ _ rfl (HOi.out.alloc _) _ _ [IntKind.u8.wrap (n)] rfl (one_at _ _) (fun h => by cases h) ?_ ?_ ?_)
            · have h := HLT.out; simp at h ⊢; omega
            · have := HGi.out.size; simp; omega
            · intro v4 w4 hO4 hg4
              have HO4 : Hid (OwnB B w4 v4 (l ++ ((m : Int) :: (T ++ [byteAt n 0])))) := Lib.hid (by rw [← HBA.out]; simpa using hO4)
              have HG4 := Lib.hid (below_grown (HGi.out.alloc (by have := HGi.out.size; omega) _) (HOi.out.alloc _) hg4 (by have := HGi.out.size; simp; omega))
              clear hO4 hg4
              go_wp2
              go_roundw
              case rel => exact ⟨0, T ++ [byteAt n 0], by omega, by first | rfl | go_num, Lib.hid (by rw [List.append_assoc, List.singleton_append, ← HBY.out]; exact HTB.out), HO4.out, HG4.out⟩
              case measure => simp [intOf]
          · have HBY : Hid (bytesOf n 2 = byteAt n 1 :: bytesOf n 1) := Lib.hid rfl
            have HBA : Hid (IntKind.u8.wrap (n / 256) = byteAt n 1) := Lib.hid (by rw [u8_wrap]; unfold byteAt; rfl)
            go_wp2_with (at_builtin; refine append_bytes rfl _ _ rfl B _ _ rfl (HOi.out.alloc _) _ _ [IntKind.u8.wrap (n / 256)] rfl (one_at _ _) (fun h => by cases h) ?_ ?_ ?_)
            · have h := HLT.out; simp at h ⊢; omega
            · have := HGi.out.size; simp; omega
            · intro v4 w4 hO4 hg4
              have HO4 : Hid (OwnB B w4 v4 (l ++ ((m : Int) :: (T ++ [byteAt n 1])))) := Lib.hid (by rw [← HBA.out]; simpa using hO4)
              have HG4 := Lib.hid (below_grown (HGi.out.alloc (by have := HGi.out.size; omega) _) (HOi.out.alloc _) hg4 (by have := HGi.out.size; simp; omega))
              clear hO4 hg4
              go_wp2
              go_roundw
              case rel => exact ⟨1, T ++ [byteAt n 1], by omega, by first | rfl | go_num, Lib.hid (by rw [List.append_assoc, List.singleton_append, ← HBY.out]; exact HTB.out), HO4.out, HG4.out⟩
              case measure => simp [intOf]
          · have HBY : Hid (bytesOf n 3 = byteAt n 2 :: bytesOf n 2) := Lib.hid rfl
            have HBA : Hid (IntKind.u8.wrap (n / 65536) = byteAt n 2) := Lib.hid (by rw [u8_wrap]; unfold byteAt; rfl)
            go_wp2_with (at_builtin; refine append_bytes rfl _ _ rfl B _ _ rfl (HOi.out.alloc _) _ _ [IntKind.u8.wrap (n / 65536)] rfl (one_at _ _) (fun h => by cases h) ?_ ?_ ?_)
            · have h := HLT.out; simp at h ⊢; omega
            · have := HGi.out.size; simp; omega
            · intro v4 w4 hO4 hg4
              have HO4 : Hid (OwnB B w4 v4 (l ++ ((m : Int) :: (T ++ [byteAt n 2])))) := Lib.hid (by rw [← HBA.out]; simpa using hO4)
              have HG4 := Lib.hid (below_grown (HGi.out.alloc (by have := HGi.out.size; omega) _) (HOi.out.alloc _) hg4 (by have := HGi.out.size; simp; omega))
              clear hO4 hg4
              go_wp2
              go_roundw
              case rel => exact ⟨2, T ++ [byteAt n 2], by omega, by first | rfl | go_num, Lib.hid (by rw [List.append_assoc, List.singleton_append, ← HBY.out]; exact HTB.out), HO4.out, HG4.out⟩
              case measure => simp [intOf]
          · have HBY : Hid (bytesOf n 4 = byteAt n 3 :: bytesOf n 3) := Lib.hid rfl
            have HBA : Hid (IntKind.u8.wrap (n / 16777216) = byteAt n 3) := Lib.hid (by rw [u8_wrap]; unfold byteAt; rfl)
            go_wp2_with (at_builtin; refine append_bytes rfl _ _ rfl B _ _ rfl (HOi.out.alloc _) _ _ [IntKind.u8.wrap (n / 16777216)] rfl (one_at _ _) (fun h => by cases h) ?_ ?_ ?_)
            · have h := HLT.out; simp at h ⊢; omega
            · have := HGi.out.size; simp; omega
            · intro v4 w4 hO4 hg4
              have HO4 : Hid (OwnB B w4 v4 (l ++ ((m : Int) :: (T ++ [byteAt n 3])))) := Lib.hid (by rw [← HBA.out]; simpa using hO4)
              have HG4 := Lib.hid (below_grown (HGi.out.alloc (by have := HGi.out.size; omega) _) (HOi.out.alloc _) hg4 (by have := HGi.out.size; simp; omega))
              clear hO4 hg4
              go_wp2
              go_roundw
              case rel => exact ⟨3, T ++ [byteAt n 3], by omega, by first | rfl | go_num, Lib.hid (by rw [List.append_assoc, List.singleton_append, ← HBY.out]; exact HTB.out), HO4.out, HG4.out⟩
              case measure => simp [intOf]
          · have HBY : Hid (bytesOf n 5 = byteAt n 4 :: bytesOf n 4) := Lib.hid rfl
            have HBA : Hid (IntKind.u8.wrap (n / 4294967296) = byteAt n 4) := Lib.hid (by rw [u8_wrap]; unfold byteAt; rfl)
            go_wp2_with (at_builtin; refine append_bytes rfl _ _ rfl B _ _ rfl (HOi.out.alloc _) _ _ [IntKind.u8.wrap (n / 4294967296)] rfl (one_at _ _) (fun h => by cases h) ?_ ?_ ?_)
            · have h := HLT.out; simp at h ⊢; omega
            · have := HGi.out.size; simp; omega
            · intro v4 w4 hO4 hg4
              have HO4 : Hid (OwnB B w4 v4 (l ++ ((m : Int) :: (T ++ [byteAt n 4])))) := Lib.hid (by rw [← HBA.out]; simpa using hO4)
              have HG4 := Lib.hid (below_grown (HGi.out.alloc (by have := HGi.out.size; omega) _) (HOi.out.alloc _) hg4 (by have := HGi.out.size; simp; omega))
              clear hO4 hg4
              go_wp2
              go_roundw
              case rel => exact ⟨4, T ++ [byteAt n 4], by omega, by first | rfl | go_num, Lib.hid (by rw [List.append_assoc, List.singleton_append, ← HBY.out]; exact HTB.out), HO4.out, HG4.out⟩
              case measure => simp [intOf]
          · have HBY : Hid (bytesOf n 6 = byteAt n 5 :: bytesOf n 5) := Lib.hid rfl
            have HBA : Hid (IntKind.u8.wrap (n / 1099511627776) = byteAt n 5) := Lib.hid (by rw [u8_wrap]; unfold byteAt; rfl)
            go_wp2_with (at_builtin; refine append_bytes rfl _ _ rfl B _ _ rfl (HOi.out.alloc _) _ _ [IntKind.u8.wrap (n / 1099511627776)] rfl (one_at _ _) (fun h => by cases h) ?_ ?_ ?_)
            · have h := HLT.out; simp at h ⊢; omega
            · have := HGi.out.size; simp; omega
            · intro v4 w4 hO4 hg4
              have HO4 : Hid (OwnB B w4 v4 (l ++ ((m : Int) :: (T ++ [byteAt n 5])))) := Lib.hid (by rw [← HBA.out]; simpa using hO4)
              have HG4 := Lib.hid (below_grown (HGi.out.alloc (by have := HGi.out.size; omega) _) (HOi.out.alloc _) hg4 (by have := HGi.out.size; simp; omega))
              clear hO4 hg4
              go_wp2
              go_roundw
              case rel => exact ⟨5, T ++ [byteAt n 5], by omega, by first | rfl | go_num, Lib.hid (by rw [List.append_assoc, List.singleton_append, ← HBY.out]; exact HTB.out), HO4.out, HG4.out⟩
              case measure => simp [intOf]
          · have HBY : Hid (bytesOf n 7 = byteAt n 6 :: bytesOf n 6) := Lib.hid rfl
            have HBA : Hid (IntKind.u8.wrap (n / 281474976710656) = byteAt n 6) := Lib.hid (by rw [u8_wrap]; unfold byteAt; rfl)
            go_wp2_with (at_builtin; refine append_bytes rfl _ _ rfl B _ _ rfl (HOi.out.alloc _) _ _ [IntKind.u8.wrap (n / 281474976710656)] rfl (one_at _ _) (fun h => by cases h) ?_ ?_ ?_)
            · have h := HLT.out; simp at h ⊢; omega
            · have := HGi.out.size; simp; omega
            · intro v4 w4 hO4 hg4
              have HO4 : Hid (OwnB B w4 v4 (l ++ ((m : Int) :: (T ++ [byteAt n 6])))) := Lib.hid (by rw [← HBA.out]; simpa using hO4)
              have HG4 := Lib.hid (below_grown (HGi.out.alloc (by have := HGi.out.size; omega) _) (HOi.out.alloc _) hg4 (by have := HGi.out.size; simp; omega))
              clear hO4 hg4
              go_wp2
              go_roundw
              case rel => exact ⟨6, T ++ [byteAt n 6], by omega, by first | rfl | go_num, Lib.hid (by rw [List.append_assoc, List.singleton_append, ← HBY.out]; exact HTB.out), HO4.out, HG4.out⟩
              case measure => simp [intOf]
          · have HBY : Hid (bytesOf n 8 = byteAt n 7 :: bytesOf n 7) := Lib.hid rfl
            have HBA : Hid (IntKind.u8.wrap (n / 72057594037927936) = byteAt n 7) := Lib.hid (by rw [u8_wrap]; unfold byteAt; rfl)
            go_wp2_with (at_builtin; refine append_bytes rfl _ _ rfl B _ _ rfl (HOi.out.alloc _) _ _ [IntKind.u8.wrap (n / 72057594037927936)] rfl (one_at _ _) (fun h => by cases h) ?_ ?_ ?_)
            · have h := HLT.out; simp at h ⊢; omega
            · have := HGi.out.size; simp; omega
            · intro v4 w4 hO4 hg4
              have HO4 : Hid (OwnB B w4 v4 (l ++ ((m : Int) :: (T ++ [byteAt n 7])))) := Lib.hid (by rw [← HBA.out]; simpa using hO4)
              have HG4 := Lib.hid (below_grown (HGi.out.alloc (by have := HGi.out.size; omega) _) (HOi.out.alloc _) hg4 (by have := HGi.out.size; simp; omega))
              clear hO4 hg4
              go_wp2
              go_roundw
              case rel => exact ⟨7, T ++ [byteAt n 7], by omega, by first | rfl | go_num, Lib.hid (by rw [List.append_assoc, List.singleton_append, ← HBY.out]; exact HTB.out), HO4.out, HG4.out⟩
              case measure => simp [intOf]
end Go.Proofs.Ytpefmgmhclbcbaa.WireJ
