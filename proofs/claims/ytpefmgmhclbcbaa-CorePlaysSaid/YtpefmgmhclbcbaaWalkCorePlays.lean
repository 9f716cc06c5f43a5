/- The walk of CorePlays: for every number of cores and all acts the law returns true. Condition: the row's own bounds on a slice that came in. -/
import Derived.Test.YtpefmgmhclbcbaaCorePlaysA
import Derived.Deep.RegionHeld3
import Derived.Deep.RegionWith
import Derived.Deep.DeepCutAuto
import Derived.Deep.CutBlock
import Derived.Deep.LoopGhost
namespace Go.Proofs.Ytpefmgmhclbcbaa.WalkCorePlays
open Go.RowKit Go.Proofs.Ytpefmgmhclbcbaa.Frame Go.Proofs.Ytpefmgmhclbcbaa.Open
open Go.Proofs.Ytpefmgmhclbcbaa.CoreC Go.Proofs.Ytpefmgmhclbcbaa.CoreF Go.Proofs.Ytpefmgmhclbcbaa.CoreG Go.Proofs.Ytpefmgmhclbcbaa.CorePlaysA
set_option linter.unusedVariables false
set_option linter.unusedSimpArgs false

set_option maxRecDepth 100000 in
set_option maxHeartbeats 8000000 in
theorem walk_yes (W : World) (n : Nat) (h1 : 1 ≤ n) (h2 : n ≤ 64) (a : Option Addr) (len cap : Nat) (V : Nat → Nat → Value) (hrow : StructRow W a len ks V) (hcap : len ≤ cap) (hl : len * 40 ≤ 140737488351232) :
    Calls Try.prog 11 #[.int .i64 n, .slice a len cap] W fun e W' => e = .returned (.bool true) ∧ Below W.heap.size W W' := by
  have HR := Lib.hid hrow
  clear hrow
  go_enter Try.func11, Try.ntmps11
  go_wp2_with fail
  refine (new_yes _ n h1 h2).mono ?_
  rintro e w1 ⟨tb, cb, cap1, rfl, g1, g2, hT, hC⟩
  have HT := Lib.hid hT
  have HC := Lib.hid hC
  have z1 := hT.lt1
  have z2 := hT.lt2
  clear hT hC
  go_wp2_with fail
  refine (rnew_yes _ n h1 h2).mono ?_
  rintro e w2 ⟨rb, qb, cap2, rfl, g3, g4, hR, hD⟩
  have HT2 := Lib.hid (HT.out.ch hD id id)
  have HR2 := Lib.hid hR
  have HC2 := Lib.hid (HC.out.trans hD)
  clear hR hD HT HC
  go_wp2_with fail
  go_loopg [9] len (fun g v wr => ∃ (k : Nat) (cs : List CoreS), k ≤ len ∧ Hid (g + k = len) ∧ v = .int .i64 k ∧ Tab wr tb cb cap1 cs ∧ Tab wr rb qb cap2 cs ∧ OkS cs ∧ Ch (fun _ => False) W wr)
  case atStart => exact ⟨0, _, Nat.zero_le _, Lib.hid rfl, rfl, HT2.out, HR2.out, okS_new n, HC2.out⟩
  case round =>
    obtain ⟨k, cs, hk, Hg, rfl, hT, hR, hO, hC⟩ := hrel
    have HT := Lib.hid hT
    have HRb := Lib.hid hR
    have HO := Lib.hid hO
    have HC := Lib.hid hC
    have hz := hC.size
    have hy1 := hT.lt1
    have hy2 := hT.lt2
    have hy3 := hR.lt1
    have hy4 := hR.lt2
    clear hT hR hO hC HT2 HR2 HC2
    by_cases hlt : k < len ∧ k < 150
    · obtain ⟨hlt, h150⟩ := hlt
      obtain ⟨b, off, rfl, hb, hacts⟩ := acts_at HR.out (by omega)
      obtain ⟨e0, e1, e2, e3, e4⟩ := hacts k hlt
      clear hacts
      generalize numOf (V k 0) = K at *
      generalize numOf (V k 1) = I at *
      generalize boolOf (V k 2) = B at *
      generalize numOf (V k 3) = Y at *
      generalize numOf (V k 4) = M at *
      replace e0 := (HC.out.cell hb id).trans e0
      replace e1 := (HC.out.cell hb id).trans e1
      replace e2 := (HC.out.cell hb id).trans e2
      replace e3 := (HC.out.cell hb id).trans e3
      replace e4 := (HC.out.cell hb id).trans e4
      have hbz := Nat.lt_of_lt_of_le hb HC.out.size
      have d150 : decide ((k : Int) < 150) = true := by simp; omega
      go_upto_block 2 with fail
      go_cut [11] (fun v11 wc => ∃ cs' : List CoreS, v11 = .bool true ∧ Tab wc tb cb cap1 cs' ∧ Tab wc rb qb cap2 cs' ∧ OkS cs' ∧ Ch (fun _ => False) W wc ∧ wc.cell? ⟨wr.heap.size, 1, none⟩ = some (.int .i64 I) ∧ wr.heap.size < wc.heap.size)
      case first => as_aux_lemma =>
        clear e0 e1 e2 e3 e4
        go_wp2_with fail
        · as_aux_lemma =>
          go_region_held3 (fun w' => w'.cell? ⟨wr.heap.size, 0, none⟩ = some (.int .i64 K) ∧ w'.cell? ⟨wr.heap.size, 1, none⟩ = some (.int .i64 I) ∧ w'.cell? ⟨wr.heap.size, 2, none⟩ = some (.bool B) ∧ w'.cell? ⟨wr.heap.size, 3, none⟩ = some (.int .i64 Y) ∧ w'.cell? ⟨wr.heap.size, 4, none⟩ = some (.int .i64 M))
            (first
              | go_keep
              | (go_split_ands; refine ⟨?_, ?_, ?_, ?_, ?_⟩ <;> first | exact keepch hCb (by assumption) (by omega) | exact keepch hCa (by assumption) (by omega)))
            (first
              | (go_at_call 38; refine (CoreD.power _ _ _ _ _ (HT.out.ch (F := fun _ => False) (by (repeat' (first | with_reducible exact Ch.refl _ _ | (with_reducible refine Ch.alloc ?_ _) | (with_reducible refine Ch.drew ?_) | (with_reducible refine Ch.drewN ?_ _)))) id id) I B).mono ?_; rintro e wa ⟨rfl, hTa, hCa⟩)
              | (go_at_call 39; refine (CoreE.power _ _ _ _ _ (HRb.out.ch (F := (· = cb)) (Ch.trans (by (repeat' (first | with_reducible exact Ch.refl _ _ | (with_reducible refine Ch.alloc ?_ _) | (with_reducible refine Ch.drew ?_) | (with_reducible refine Ch.drewN ?_ _)))) hCa) (by omega) (by omega)) I B).mono ?_; rintro e wb ⟨rfl, hRbb, hCb⟩))
          go_wp2_with fail
          go_meet
          exact ⟨(onCore cs I 3 (powerF B)).1, rfl, hTa.ch hCb (by omega) (by omega), hRbb, okS_power HO.out I B, (((HC.out.alloc _).drew.then hCa (fun _ _ h => by omega)).then hCb (fun _ _ h => by omega)), keepch hCb (keepch hCa (by first | assumption | go_simp) (by omega)) (by omega), by have p1 := hCa.size; have p2 := hCb.size; simp only [World.size_alloc, World.size_drew] at p1; omega⟩
        · as_aux_lemma =>
          go_region_held3 (fun w' => w'.cell? ⟨wr.heap.size, 0, none⟩ = some (.int .i64 K) ∧ w'.cell? ⟨wr.heap.size, 1, none⟩ = some (.int .i64 I) ∧ w'.cell? ⟨wr.heap.size, 2, none⟩ = some (.bool B) ∧ w'.cell? ⟨wr.heap.size, 3, none⟩ = some (.int .i64 Y) ∧ w'.cell? ⟨wr.heap.size, 4, none⟩ = some (.int .i64 M))
            (first
              | go_keep
              | (go_split_ands; refine ⟨?_, ?_, ?_, ?_, ?_⟩ <;> first | exact keepch hCb (by assumption) (by omega) | exact keepch hCa (by assumption) (by omega)))
            (first
              | (go_at_call 40; refine (CoreD.rest _ _ _ _ _ (HT.out.ch (F := fun _ => False) (by (repeat' (first | with_reducible exact Ch.refl _ _ | (with_reducible refine Ch.alloc ?_ _) | (with_reducible refine Ch.drew ?_) | (with_reducible refine Ch.drewN ?_ _)))) id id) I Y M).mono ?_; rintro e wa ⟨rfl, hTa, hCa⟩)
              | (go_at_call 41; refine (CoreE.rest _ _ _ _ _ (HRb.out.ch (F := (· = cb)) (Ch.trans (by (repeat' (first | with_reducible exact Ch.refl _ _ | (with_reducible refine Ch.alloc ?_ _) | (with_reducible refine Ch.drew ?_) | (with_reducible refine Ch.drewN ?_ _)))) hCa) (by omega) (by omega)) I Y M).mono ?_; rintro e wb ⟨rfl, hRbb, hCb⟩))
          go_wp2_with fail
          go_meet
          exact ⟨(onCore cs I 3 (restF Y M)).1, rfl, hTa.ch hCb (by omega) (by omega), hRbb, okS_rest HO.out I Y M, (((HC.out.alloc _).drew.then hCa (fun _ _ h => by omega)).then hCb (fun _ _ h => by omega)), keepch hCb (keepch hCa (by first | assumption | go_simp) (by omega)) (by omega), by have p1 := hCa.size; have p2 := hCb.size; simp only [World.size_alloc, World.size_drew] at p1; omega⟩
        · as_aux_lemma =>
          refine (CoreD.wake _ _ _ _ _ (HT.out.ch (F := fun _ => False) (by (repeat' (first | with_reducible exact Ch.refl _ _ | (with_reducible refine Ch.alloc ?_ _) | (with_reducible refine Ch.drew ?_) | (with_reducible refine Ch.drewN ?_ _)))) id id) I M HO.out).mono ?_
          rintro e wa ⟨rfl, hTa, hCa⟩
          have k1 : wa.cell? ⟨wr.heap.size, 1, none⟩ = some (.int .i64 I) := keepch hCa (by go_simp) (by omega)
          have k4 : wa.cell? ⟨wr.heap.size, 4, none⟩ = some (.int .i64 M) := keepch hCa (by go_simp) (by omega)
          go_wp2_with fail
          refine (CoreE.wake _ _ _ _ _ (HRb.out.ch (F := (· = cb)) (Ch.trans (by (repeat' (first | with_reducible exact Ch.refl _ _ | (with_reducible refine Ch.alloc ?_ _) | (with_reducible refine Ch.drew ?_) | (with_reducible refine Ch.drewN ?_ _)))) hCa) (by omega) (by omega)) I M HO.out).mono ?_
          rintro e wb ⟨rfl, hRbb, hCb⟩
          go_wp2_with fail
          go_meet
          exact ⟨(onCore cs I ((0 : Int), (3 : Int)) (wakeF M)).1, rfl, hTa.ch hCb (by omega) (by omega), hRbb, okS_wake HO.out I M, (((HC.out.alloc _).then hCa (fun _ _ h => by omega)).then hCb (fun _ _ h => by omega)), keepch hCb (keepch hCa (by first | assumption | go_simp) (by omega)) (by omega), by have p1 := hCa.size; have p2 := hCb.size; simp only [World.size_alloc, World.size_drew] at p1; omega⟩
        · as_aux_lemma =>
          go_region_held3 (fun w' => w'.cell? ⟨wr.heap.size, 0, none⟩ = some (.int .i64 K) ∧ w'.cell? ⟨wr.heap.size, 1, none⟩ = some (.int .i64 I) ∧ w'.cell? ⟨wr.heap.size, 2, none⟩ = some (.bool B) ∧ w'.cell? ⟨wr.heap.size, 3, none⟩ = some (.int .i64 Y) ∧ w'.cell? ⟨wr.heap.size, 4, none⟩ = some (.int .i64 M))
            (first
              | go_keep
              | (go_split_ands; refine ⟨?_, ?_, ?_, ?_, ?_⟩ <;> first | exact keepch hCb (by assumption) (by omega) | exact keepch hCa (by assumption) (by omega)))
            (first
              | (go_at_call 44; refine (CoreD.count _ _ _ _ _ (HT.out.ch (F := fun _ => False) (by (repeat' (first | with_reducible exact Ch.refl _ _ | (with_reducible refine Ch.alloc ?_ _) | (with_reducible refine Ch.drew ?_) | (with_reducible refine Ch.drewN ?_ _)))) id id) I B).mono ?_; rintro e wa ⟨rfl, hTa, hCa⟩)
              | (go_at_call 45; refine (CoreE.count _ _ _ _ _ (HRb.out.ch (F := (· = cb)) (Ch.trans (by (repeat' (first | with_reducible exact Ch.refl _ _ | (with_reducible refine Ch.alloc ?_ _) | (with_reducible refine Ch.drew ?_) | (with_reducible refine Ch.drewN ?_ _)))) hCa) (by omega) (by omega)) I B).mono ?_; rintro e wb ⟨rfl, hRbb, hCb⟩))
          go_wp2_with fail
          go_meet
          exact ⟨(onCore cs I 3 (countF B)).1, rfl, hTa.ch hCb (by omega) (by omega), hRbb, okS_count HO.out I B, (((HC.out.alloc _).drew.then hCa (fun _ _ h => by omega)).then hCb (fun _ _ h => by omega)), keepch hCb (keepch hCa (by first | assumption | go_simp) (by omega)) (by omega), by have p1 := hCa.size; have p2 := hCb.size; simp only [World.size_alloc, World.size_drew] at p1; omega⟩
        · as_aux_lemma =>
          refine (CoreD.take _ _ _ _ _ (HT.out.ch (F := fun _ => False) (by (repeat' (first | with_reducible exact Ch.refl _ _ | (with_reducible refine Ch.alloc ?_ _) | (with_reducible refine Ch.drew ?_) | (with_reducible refine Ch.drewN ?_ _)))) id id) I).mono ?_
          rintro e wa ⟨rfl, hTa, hCa⟩
          have k1 : wa.cell? ⟨wr.heap.size, 1, none⟩ = some (.int .i64 I) := keepch hCa (by go_simp) (by omega)
          have k4 : wa.cell? ⟨wr.heap.size, 4, none⟩ = some (.int .i64 M) := keepch hCa (by go_simp) (by omega)
          go_wp2_with fail
          refine (CoreE.take _ _ _ _ _ (HRb.out.ch (F := (· = cb)) (Ch.trans (by (repeat' (first | with_reducible exact Ch.refl _ _ | (with_reducible refine Ch.alloc ?_ _) | (with_reducible refine Ch.drew ?_) | (with_reducible refine Ch.drewN ?_ _)))) hCa) (by omega) (by omega)) I).mono ?_
          rintro e wb ⟨rfl, hRbb, hCb⟩
          go_wp2_with fail
          go_meet
          exact ⟨(onCore cs I ((0 : Int), (0 : Int), (3 : Int)) takeF).1, rfl, hTa.ch hCb (by omega) (by omega), hRbb, okS_take HO.out I, (((HC.out.alloc _).then hCa (fun _ _ h => by omega)).then hCb (fun _ _ h => by omega)), keepch hCb (keepch hCa (by first | assumption | go_simp) (by omega)) (by omega), by have p1 := hCa.size; have p2 := hCb.size; simp only [World.size_alloc, World.size_drew] at p1; omega⟩
      case rest => as_aux_lemma =>
        obtain ⟨cs', rfl, hT2, hR2, hO2, hC2, hbx, hz2⟩ := hcut
        have HT2 := Lib.hid hT2
        have HR2 := Lib.hid hR2
        have HO2 := Lib.hid hO2
        have HC2 := Lib.hid hC2
        have hfew := hT2.few
        have hw1 := hR2.lt1
        have hw2 := hR2.lt2
        have hhd := hR2.hd
        clear hT2 hR2 hO2 hC2 HT HRb HO HC e0 e1 e2 e3 e4 HR
        go_wp2_with fail
        refine (get _ _ _ _ _ HT2.out I).mono ?_
        rintro e wd ⟨rfl, hB⟩
        have hbx2 : wd.cell? ⟨wr.heap.size, 1, none⟩ = some (.int .i64 I) := (hB.cell hz2).trans hbx
        have hhd2 : wd.cell? ⟨rb, 0, none⟩ = some (.slice (some ⟨qb, 0, none⟩) cs'.length cap2) := (hB.cell hw1).trans hhd
        have hw1d : rb < wd.heap.size := Nat.lt_of_lt_of_le hw1 hB.size
        have hw2d : qb < wd.heap.size := Nat.lt_of_lt_of_le hw2 hB.size
        have hz2d : wr.heap.size < wd.heap.size := Nat.lt_of_lt_of_le hz2 hB.size
        rcases split cs' I with ⟨m, c, rfl, hi⟩ | hi
        · as_aux_lemma =>
          have e : getF cs' (m : Int) = (c, 0) := by unfold getF; rw [onCore_in hi]
          rw [e]
          have hlt2 : m < cs'.length := (List.getElem?_eq_some_iff.1 hi).1
          obtain ⟨q0, q1, q2, q3, q4, q5⟩ := HR2.out.rows m c hi
          obtain ⟨p0, p1, p2, p3, p4, p5⟩ := c
          simp only [CoreS.val] at q0 q1 q2 q3 q4 q5 ⊢
          replace q0 := (hB.cell hw2).trans q0
          replace q1 := (hB.cell hw2).trans q1
          replace q2 := (hB.cell hw2).trans q2
          replace q3 := (hB.cell hw2).trans q3
          replace q4 := (hB.cell hw2).trans q4
          replace q5 := (hB.cell hw2).trans q5
          clear hi
          have HBB := Lib.hid hB
          clear hB
          go_wp2_with fail
          refine wp_region_held_drew (S := fun w' => w'.cell? ⟨wr.heap.size, 1, none⟩ = some (.int .i64 m) ∧ w'.cell? ⟨rb, 0, none⟩ = some (.slice (some ⟨qb, 0, none⟩) cs'.length cap2) ∧ w'.cell? ⟨wd.heap.size, 0, none⟩ = some (.bool p0) ∧ w'.cell? ⟨wd.heap.size, 1, none⟩ = some (.bool p1) ∧ w'.cell? ⟨wd.heap.size, 2, none⟩ = some (.int .i64 p2) ∧ w'.cell? ⟨wd.heap.size, 3, none⟩ = some (.int .i64 p3) ∧ w'.cell? ⟨wd.heap.size, 4, none⟩ = some (.int .i64 p4) ∧ w'.cell? ⟨wd.heap.size, 5, none⟩ = some (.int .i64 p5) ∧ w'.cell? ⟨qb, m * 6, none⟩ = some (.bool p0) ∧ w'.cell? ⟨qb, m * 6 + 1, none⟩ = some (.bool p1) ∧ w'.cell? ⟨qb, m * 6 + 2, none⟩ = some (.int .i64 p2) ∧ w'.cell? ⟨qb, m * 6 + 3, none⟩ = some (.int .i64 p3) ∧ w'.cell? ⟨qb, m * 6 + 4, none⟩ = some (.int .i64 p4) ∧ w'.cell? ⟨qb, m * 6 + 5, none⟩ = some (.int .i64 p5) ∧ Below wd.heap.size wd w') (by kernel_rfl) ?_ (fun hHeld => ?_)
          · refine ⟨?_, ?_, ?_, ?_, ?_, ?_, ?_, ?_, ?_, ?_, ?_, ?_, ?_, ?_, ?_⟩
            all_goals first | assumption | (go_simp; done) | skip
            exact ((Below.refl _ _).alloc (Nat.le_refl _) _).drew
          refine wpAnyH_take (i := 0) (oi := ?_) (v := ?_) ?_ (by kernel_rfl) (by kernel_rfl) (by kernel_rfl) ?_ (Or.inl ⟨?_, ?_⟩) hHeld ?_
          rotate_left 2
          · simp only [List.getElem?_toArray, List.getElem?_cons_zero, List.getElem?_cons_succ]; rfl
          · exact fun _ _ _ h => h
          · rfl
          · intro w' hSw; (try dsimp only at hSw); go_simp; (try with_reducible rfl)
          (try simp only [Act.put, List.setIfInBounds_toArray, List.set_cons_zero, List.set_cons_succ])
          refine wpAnyH_take (i := 1) (oi := ?_) (v := ?_) ?_ (by kernel_rfl) (by kernel_rfl) (by kernel_rfl) ?_ (Or.inl ⟨?_, ?_⟩) hHeld ?_
          rotate_left 2
          · simp only [List.getElem?_toArray, List.getElem?_cons_zero, List.getElem?_cons_succ]; rfl
          · exact fun _ _ _ h => h
          · rfl
          · intro w' hSw; (try dsimp only at hSw); go_simp; (try with_reducible rfl)
          (try simp only [Act.put, List.setIfInBounds_toArray, List.set_cons_zero, List.set_cons_succ])
          refine wpAnyH_take (i := 2) (oi := ?_) (v := ?_) ?_ (by kernel_rfl) (by kernel_rfl) (by kernel_rfl) ?_ (Or.inl ⟨?_, ?_⟩) hHeld ?_
          rotate_left 2
          · simp only [List.getElem?_toArray, List.getElem?_cons_zero, List.getElem?_cons_succ]; rfl
          · exact fun _ _ _ h => h
          · rfl
          · intro w' hSw; (try dsimp only at hSw); go_simp; (try with_reducible rfl)
          (try simp only [Act.put, List.setIfInBounds_toArray, List.set_cons_zero, List.set_cons_succ])
          refine wpAnyH_take (i := 3) (oi := ?_) (v := ?_) ?_ (by kernel_rfl) (by kernel_rfl) (by kernel_rfl) ?_ (Or.inl ⟨?_, ?_⟩) hHeld ?_
          rotate_left 2
          · simp only [List.getElem?_toArray, List.getElem?_cons_zero, List.getElem?_cons_succ]; rfl
          · exact fun _ _ _ h => h
          · rfl
          · intro w' hSw; (try dsimp only at hSw); go_simp; (try with_reducible rfl)
          (try simp only [Act.put, List.setIfInBounds_toArray, List.set_cons_zero, List.set_cons_succ])
          refine wpAnyH_take (i := 4) (oi := ?_) (v := ?_) ?_ (by kernel_rfl) (by kernel_rfl) (by kernel_rfl) ?_ (Or.inl ⟨?_, ?_⟩) hHeld ?_
          rotate_left 2
          · simp only [List.getElem?_toArray, List.getElem?_cons_zero, List.getElem?_cons_succ]; rfl
          · exact fun _ _ _ h => h
          · rfl
          · intro w' hSw; (try dsimp only at hSw); go_simp; (try with_reducible rfl)
          (try simp only [Act.put, List.setIfInBounds_toArray, List.set_cons_zero, List.set_cons_succ])
          refine wpAnyH_take (i := 5) (oi := ?_) (v := ?_) ?_ (by kernel_rfl) (by kernel_rfl) (by kernel_rfl) ?_ (Or.inl ⟨?_, ?_⟩) hHeld ?_
          rotate_left 2
          · simp only [List.getElem?_toArray, List.getElem?_cons_zero, List.getElem?_cons_succ]; rfl
          · exact fun _ _ _ h => h
          · rfl
          · intro w' hSw; (try dsimp only at hSw); go_simp; (try with_reducible rfl)
          (try simp only [Act.put, List.setIfInBounds_toArray, List.set_cons_zero, List.set_cons_succ])
          refine wpAnyH_take (i := 7) (oi := ?_) (v := ?_) ?_ (by kernel_rfl) (by kernel_rfl) (by kernel_rfl) ?_ (Or.inl ⟨?_, ?_⟩) hHeld ?_
          rotate_left 2
          · simp only [List.getElem?_toArray, List.getElem?_cons_zero, List.getElem?_cons_succ]; rfl
          · exact fun _ _ _ h => h
          · rfl
          · intro w' hSw; (try dsimp only at hSw); go_simp; (try with_reducible rfl)
          (try simp only [Act.put, List.setIfInBounds_toArray, List.set_cons_zero, List.set_cons_succ])
          refine wpAnyH_take (i := 8) (oi := ?_) (v := ?_) ?_ (by kernel_rfl) (by kernel_rfl) (by kernel_rfl) ?_ (Or.inl ⟨?_, ?_⟩) hHeld ?_
          rotate_left 2
          · simp only [List.getElem?_toArray, List.getElem?_cons_zero, List.getElem?_cons_succ]; rfl
          · exact fun _ _ _ h => h
          · rfl
          · intro w' hSw; (try dsimp only at hSw); go_simp; (try with_reducible rfl)
          (try simp only [Act.put, List.setIfInBounds_toArray, List.set_cons_zero, List.set_cons_succ])
          refine wpAnyH_ready (rs := [6]) (by kernel_rfl) (by simp) ?_
          refine AllReadyH.cons (o := ?_) ?_ (fun K hK => ?_) AllReadyH.nil
          rotate_left 1
          · simp only [List.getElem?_toArray, List.getElem?_cons_zero, List.getElem?_cons_succ]; rfl
          go_simp
          refine (is_yes _ rb qb cap2 cs'.length _ hHeld.2.1 hfew (by omega) (by omega)).mono ?_
          rintro e w9 ⟨rfl, rfl⟩
          refine hK.out _ _ hHeld (fun hHeld => ?_)
          clear hK K
          (try simp only [Act.put, List.setIfInBounds_toArray, List.set_cons_zero, List.set_cons_succ])
          refine wpAnyH_take (i := 9) (oi := ?_) (v := ?_) ?_ (by kernel_rfl) (by kernel_rfl) (by kernel_rfl) ?_ (Or.inl ⟨?_, ?_⟩) hHeld ?_
          rotate_left 2
          · simp only [List.getElem?_toArray, List.getElem?_cons_zero, List.getElem?_cons_succ]; rfl
          · exact fun _ _ _ h => h
          · rfl
          · intro w' hSw; (try dsimp only at hSw); go_simp; (try with_reducible rfl)
          (try simp only [Act.put, List.setIfInBounds_toArray, List.set_cons_zero, List.set_cons_succ])
          refine wpAnyH_take (i := 10) (oi := ?_) (v := ?_) ?_ (by kernel_rfl) (by kernel_rfl) (by kernel_rfl) ?_ (Or.inl ⟨?_, ?_⟩) hHeld ?_
          rotate_left 2
          · simp only [List.getElem?_toArray, List.getElem?_cons_zero, List.getElem?_cons_succ]; rfl
          · exact fun _ _ _ h => h
          · rfl
          · intro w' hSw; (try dsimp only at hSw); go_simp; (try with_reducible rfl)
          (try simp only [Act.put, List.setIfInBounds_toArray, List.set_cons_zero, List.set_cons_succ])
          refine wpAnyH_take (i := 11) (oi := ?_) (v := ?_) ?_ (by kernel_rfl) (by kernel_rfl) (by kernel_rfl) ?_ (Or.inl ⟨?_, ?_⟩) hHeld ?_
          rotate_left 2
          · simp only [List.getElem?_toArray, List.getElem?_cons_zero, List.getElem?_cons_succ]; rfl
          · exact fun _ _ _ h => h
          · rfl
          · intro w' hSw; (try dsimp only at hSw); go_simp; (try with_reducible rfl)
          (try simp only [Act.put, List.setIfInBounds_toArray, List.set_cons_zero, List.set_cons_succ])
          refine wpAnyH_take (i := 12) (oi := ?_) (v := ?_) ?_ (by kernel_rfl) (by kernel_rfl) (by kernel_rfl) ?_ (Or.inl ⟨?_, ?_⟩) hHeld ?_
          rotate_left 2
          · simp only [List.getElem?_toArray, List.getElem?_cons_zero, List.getElem?_cons_succ]; rfl
          · exact fun _ _ _ h => h
          · rfl
          · intro w' hSw; (try dsimp only at hSw); go_simp; (try with_reducible rfl)
          (try simp only [Act.put, List.setIfInBounds_toArray, List.set_cons_zero, List.set_cons_succ])
          refine wpAnyH_take (i := 13) (oi := ?_) (v := ?_) ?_ (by kernel_rfl) (by kernel_rfl) (by kernel_rfl) ?_ (Or.inl ⟨?_, ?_⟩) hHeld ?_
          rotate_left 2
          · simp only [List.getElem?_toArray, List.getElem?_cons_zero, List.getElem?_cons_succ]; rfl
          · exact fun _ _ _ h => h
          · rfl
          · intro w' hSw; (try dsimp only at hSw); go_simp; (try with_reducible rfl)
          (try simp only [Act.put, List.setIfInBounds_toArray, List.set_cons_zero, List.set_cons_succ])
          refine wpAnyH_take (i := 14) (oi := ?_) (v := ?_) ?_ (by kernel_rfl) (by kernel_rfl) (by kernel_rfl) ?_ (Or.inl ⟨?_, ?_⟩) hHeld ?_
          rotate_left 2
          · simp only [List.getElem?_toArray, List.getElem?_cons_zero, List.getElem?_cons_succ]; rfl
          · exact fun _ _ _ h => h
          · rfl
          · intro w' hSw; (try dsimp only at hSw); go_simp; (try with_reducible rfl)
          (try simp only [Act.put, List.setIfInBounds_toArray, List.set_cons_zero, List.set_cons_succ])
          refine wpAnyH_ready (rs := [15]) (by kernel_rfl) (by simp) ?_
          refine AllReadyH.cons (o := ?_) ?_ (fun K hK => ?_) AllReadyH.nil
          rotate_left 1
          · simp only [List.getElem?_toArray, List.getElem?_cons_zero, List.getElem?_cons_succ]; rfl
          go_simp
          refine (is_yes _ rb qb cap2 cs'.length _ hHeld.2.1 hfew (by omega) (by omega)).mono ?_
          rintro e w9 ⟨rfl, rfl⟩
          refine hK.out _ _ hHeld (fun hHeld => ?_)
          clear hK K
          (try simp only [Act.put, List.setIfInBounds_toArray, List.set_cons_zero, List.set_cons_succ])
          refine wpAnyH_take (i := 16) (oi := ?_) (v := ?_) ?_ (by kernel_rfl) (by kernel_rfl) (by kernel_rfl) ?_ (Or.inl ⟨?_, ?_⟩) hHeld ?_
          rotate_left 2
          · simp only [List.getElem?_toArray, List.getElem?_cons_zero, List.getElem?_cons_succ]; rfl
          · exact fun _ _ _ h => h
          · rfl
          · intro w' hSw; (try dsimp only at hSw); go_simp; (try with_reducible rfl)
          (try simp only [Act.put, List.setIfInBounds_toArray, List.set_cons_zero, List.set_cons_succ])
          refine wpAnyH_take (i := 17) (oi := ?_) (v := ?_) ?_ (by kernel_rfl) (by kernel_rfl) (by kernel_rfl) ?_ (Or.inl ⟨?_, ?_⟩) hHeld ?_
          rotate_left 2
          · simp only [List.getElem?_toArray, List.getElem?_cons_zero, List.getElem?_cons_succ]; rfl
          · exact fun _ _ _ h => h
          · rfl
          · intro w' hSw; (try dsimp only at hSw); go_simp; (try with_reducible rfl)
          (try simp only [Act.put, List.setIfInBounds_toArray, List.set_cons_zero, List.set_cons_succ])
          refine wpAnyH_take (i := 18) (oi := ?_) (v := ?_) ?_ (by kernel_rfl) (by kernel_rfl) (by kernel_rfl) ?_ (Or.inl ⟨?_, ?_⟩) hHeld ?_
          rotate_left 2
          · simp only [List.getElem?_toArray, List.getElem?_cons_zero, List.getElem?_cons_succ]; rfl
          · exact fun _ _ _ h => h
          · rfl
          · intro w' hSw; (try dsimp only at hSw); go_simp; (try with_reducible rfl)
          (try simp only [Act.put, List.setIfInBounds_toArray, List.set_cons_zero, List.set_cons_succ])
          refine wpAnyH_take (i := 19) (oi := ?_) (v := ?_) ?_ (by kernel_rfl) (by kernel_rfl) (by kernel_rfl) ?_ (Or.inl ⟨?_, ?_⟩) hHeld ?_
          rotate_left 2
          · simp only [List.getElem?_toArray, List.getElem?_cons_zero, List.getElem?_cons_succ]; rfl
          · exact fun _ _ _ h => h
          · rfl
          · intro w' hSw; (try dsimp only at hSw); go_simp; (try with_reducible rfl)
          (try simp only [Act.put, List.setIfInBounds_toArray, List.set_cons_zero, List.set_cons_succ])
          refine wpAnyH_take (i := 20) (oi := ?_) (v := ?_) ?_ (by kernel_rfl) (by kernel_rfl) (by kernel_rfl) ?_ (Or.inl ⟨?_, ?_⟩) hHeld ?_
          rotate_left 2
          · simp only [List.getElem?_toArray, List.getElem?_cons_zero, List.getElem?_cons_succ]; rfl
          · exact fun _ _ _ h => h
          · rfl
          · intro w' hSw; (try dsimp only at hSw); go_simp; (try with_reducible rfl)
          (try simp only [Act.put, List.setIfInBounds_toArray, List.set_cons_zero, List.set_cons_succ])
          refine wpAnyH_take (i := 21) (oi := ?_) (v := ?_) ?_ (by kernel_rfl) (by kernel_rfl) (by kernel_rfl) ?_ (Or.inl ⟨?_, ?_⟩) hHeld ?_
          rotate_left 2
          · simp only [List.getElem?_toArray, List.getElem?_cons_zero, List.getElem?_cons_succ]; rfl
          · exact fun _ _ _ h => h
          · rfl
          · intro w' hSw; (try dsimp only at hSw); go_simp; (try with_reducible rfl)
          (try simp only [Act.put, List.setIfInBounds_toArray, List.set_cons_zero, List.set_cons_succ])
          refine wpAnyH_take (i := 22) (oi := ?_) (v := ?_) ?_ (by kernel_rfl) (by kernel_rfl) (by kernel_rfl) ?_ (Or.inl ⟨?_, ?_⟩) hHeld ?_
          rotate_left 2
          · simp only [List.getElem?_toArray, List.getElem?_cons_zero, List.getElem?_cons_succ]; rfl
          · exact fun _ _ _ h => h
          · rfl
          · intro w' hSw; (try dsimp only at hSw); go_simp; (try with_reducible rfl)
          (try simp only [Act.put, List.setIfInBounds_toArray, List.set_cons_zero, List.set_cons_succ])
          refine wpAnyH_take (i := 23) (oi := ?_) (v := ?_) ?_ (by kernel_rfl) (by kernel_rfl) (by kernel_rfl) ?_ (Or.inl ⟨?_, ?_⟩) hHeld ?_
          rotate_left 2
          · simp only [List.getElem?_toArray, List.getElem?_cons_zero, List.getElem?_cons_succ]; rfl
          · exact fun _ _ _ h => h
          · rfl
          · intro w' hSw; (try dsimp only at hSw); go_simp; (try with_reducible rfl)
          (try simp only [Act.put, List.setIfInBounds_toArray, List.set_cons_zero, List.set_cons_succ])
          refine wpAnyH_take (i := 24) (oi := ?_) (v := ?_) ?_ (by kernel_rfl) (by kernel_rfl) (by kernel_rfl) ?_ (Or.inl ⟨?_, ?_⟩) hHeld ?_
          rotate_left 2
          · simp only [List.getElem?_toArray, List.getElem?_cons_zero, List.getElem?_cons_succ]; rfl
          · exact fun _ _ _ h => h
          · rfl
          · intro w' hSw; (try dsimp only at hSw); go_simp; (try with_reducible rfl)
          (try simp only [Act.put, List.setIfInBounds_toArray, List.set_cons_zero, List.set_cons_succ])
          refine wpAnyH_take (i := 25) (oi := ?_) (v := ?_) ?_ (by kernel_rfl) (by kernel_rfl) (by kernel_rfl) ?_ (Or.inl ⟨?_, ?_⟩) hHeld ?_
          rotate_left 2
          · simp only [List.getElem?_toArray, List.getElem?_cons_zero, List.getElem?_cons_succ]; rfl
          · exact fun _ _ _ h => h
          · rfl
          · intro w' hSw; (try dsimp only at hSw); go_simp; (try with_reducible rfl)
          (try simp only [Act.put, List.setIfInBounds_toArray, List.set_cons_zero, List.set_cons_succ])
          refine wpAnyH_ready (rs := [26]) (by kernel_rfl) (by simp) ?_
          refine AllReadyH.cons (o := ?_) ?_ (fun K hK => ?_) AllReadyH.nil
          rotate_left 1
          · simp only [List.getElem?_toArray, List.getElem?_cons_zero, List.getElem?_cons_succ]; rfl
          go_simp
          obtain ⟨s0, s1, s2, s3, s4, s5, s6, s7, s8, s9, s10, s11, s12, s13, s14⟩ := hHeld
          refine (CoreB.cores_any _ _ _ _ _ _ _).mono ?_
          rintro e w9 ⟨rfl, hb9⟩
          refine hK.out _ _ ⟨keepcell hb9 s0, keepcell hb9 s1, keepcell hb9 s2, keepcell hb9 s3, keepcell hb9 s4, keepcell hb9 s5, keepcell hb9 s6, keepcell hb9 s7, keepcell hb9 s8, keepcell hb9 s9, keepcell hb9 s10, keepcell hb9 s11, keepcell hb9 s12, keepcell hb9 s13, s14.trans (hb9.mono s14.size)⟩ (fun hHeld => ?_)
          clear hK K
          (try simp only [Act.put, List.setIfInBounds_toArray, List.set_cons_zero, List.set_cons_succ])
          refine wpAnyH_take (i := 27) (oi := ?_) (v := ?_) ?_ (by kernel_rfl) (by kernel_rfl) (by kernel_rfl) ?_ (Or.inl ⟨?_, ?_⟩) hHeld ?_
          rotate_left 2
          · simp only [List.getElem?_toArray, List.getElem?_cons_zero, List.getElem?_cons_succ]; rfl
          · exact fun _ _ _ h => h
          · rfl
          · intro w' hSw; (try dsimp only at hSw); go_simp; (try with_reducible rfl)
          (try simp only [Act.put, List.setIfInBounds_toArray, List.set_cons_zero, List.set_cons_succ])
          refine wpAnyH_take (i := 28) (oi := ?_) (v := ?_) ?_ (by kernel_rfl) (by kernel_rfl) (by kernel_rfl) ?_ (Or.inl ⟨?_, ?_⟩) hHeld ?_
          rotate_left 2
          · simp only [List.getElem?_toArray, List.getElem?_cons_zero, List.getElem?_cons_succ]; rfl
          · exact fun _ _ _ h => h
          · rfl
          · intro w' hSw; (try dsimp only at hSw); go_simp; (try with_reducible rfl)
          (try simp only [Act.put, List.setIfInBounds_toArray, List.set_cons_zero, List.set_cons_succ])
          refine wpAnyH_take (i := 29) (oi := ?_) (v := ?_) ?_ (by kernel_rfl) (by kernel_rfl) (by kernel_rfl) ?_ (Or.inl ⟨?_, ?_⟩) hHeld ?_
          rotate_left 2
          · simp only [List.getElem?_toArray, List.getElem?_cons_zero, List.getElem?_cons_succ]; rfl
          · exact fun _ _ _ h => h
          · rfl
          · intro w' hSw; (try dsimp only at hSw); go_simp; (try with_reducible rfl)
          (try simp only [Act.put, List.setIfInBounds_toArray, List.set_cons_zero, List.set_cons_succ])
          refine wpAnyH_take (i := 30) (oi := ?_) (v := ?_) ?_ (by kernel_rfl) (by kernel_rfl) (by kernel_rfl) ?_ (Or.inl ⟨?_, ?_⟩) hHeld ?_
          rotate_left 2
          · simp only [List.getElem?_toArray, List.getElem?_cons_zero, List.getElem?_cons_succ]; rfl
          · exact fun _ _ _ h => h
          · rfl
          · intro w' hSw; (try dsimp only at hSw); go_simp; (try with_reducible rfl)
          (try simp only [Act.put, List.setIfInBounds_toArray, List.set_cons_zero, List.set_cons_succ])
          refine wpAnyH_take (i := 31) (oi := ?_) (v := ?_) ?_ (by kernel_rfl) (by kernel_rfl) (by kernel_rfl) ?_ (Or.inl ⟨?_, ?_⟩) hHeld ?_
          rotate_left 2
          · simp only [List.getElem?_toArray, List.getElem?_cons_zero, List.getElem?_cons_succ]; rfl
          · exact fun _ _ _ h => h
          · rfl
          · intro w' hSw; (try dsimp only at hSw); go_simp; (try with_reducible rfl)
          (try simp only [Act.put, List.setIfInBounds_toArray, List.set_cons_zero, List.set_cons_succ])
          refine wpAnyH_take (i := 32) (oi := ?_) (v := ?_) ?_ (by kernel_rfl) (by kernel_rfl) (by kernel_rfl) ?_ (Or.inl ⟨?_, ?_⟩) hHeld ?_
          rotate_left 2
          · simp only [List.getElem?_toArray, List.getElem?_cons_zero, List.getElem?_cons_succ]; rfl
          · exact fun _ _ _ h => h
          · rfl
          · intro w' hSw; (try dsimp only at hSw); go_simp; (try with_reducible rfl)
          (try simp only [Act.put, List.setIfInBounds_toArray, List.set_cons_zero, List.set_cons_succ])
          refine wpAnyH_take (i := 33) (oi := ?_) (v := ?_) ?_ (by kernel_rfl) (by kernel_rfl) (by kernel_rfl) ?_ (Or.inl ⟨?_, ?_⟩) hHeld ?_
          rotate_left 2
          · simp only [List.getElem?_toArray, List.getElem?_cons_zero, List.getElem?_cons_succ]; rfl
          · exact fun _ _ _ h => h
          · rfl
          · intro w' hSw; (try dsimp only at hSw); go_simp; (try with_reducible rfl)
          (try simp only [Act.put, List.setIfInBounds_toArray, List.set_cons_zero, List.set_cons_succ])
          refine wpAnyH_ready (rs := [34]) (by kernel_rfl) (by simp) ?_
          refine AllReadyH.cons (o := ?_) ?_ (fun K hK => ?_) AllReadyH.nil
          rotate_left 1
          · simp only [List.getElem?_toArray, List.getElem?_cons_zero, List.getElem?_cons_succ]; rfl
          go_simp
          refine (is_yes _ rb qb cap2 cs'.length _ hHeld.2.1 hfew (by omega) (by omega)).mono ?_
          rintro e w9 ⟨rfl, rfl⟩
          refine hK.out _ _ hHeld (fun hHeld => ?_)
          clear hK K
          (try simp only [Act.put, List.setIfInBounds_toArray, List.set_cons_zero, List.set_cons_succ])
          refine wpAnyH_take (i := 35) (oi := ?_) (v := ?_) ?_ (by kernel_rfl) (by kernel_rfl) (by kernel_rfl) ?_ (Or.inl ⟨?_, ?_⟩) hHeld ?_
          rotate_left 2
          · simp only [List.getElem?_toArray, List.getElem?_cons_zero, List.getElem?_cons_succ]; rfl
          · exact fun _ _ _ h => h
          · rfl
          · intro w' hSw; (try dsimp only at hSw); go_simp; (try with_reducible rfl)
          (try simp only [Act.put, List.setIfInBounds_toArray, List.set_cons_zero, List.set_cons_succ])
          refine wpAnyH_take (i := 36) (oi := ?_) (v := ?_) ?_ (by kernel_rfl) (by kernel_rfl) (by kernel_rfl) ?_ (Or.inl ⟨?_, ?_⟩) hHeld ?_
          rotate_left 2
          · simp only [List.getElem?_toArray, List.getElem?_cons_zero, List.getElem?_cons_succ]; rfl
          · exact fun _ _ _ h => h
          · rfl
          · intro w' hSw; (try dsimp only at hSw); go_simp; (try with_reducible rfl)
          (try simp only [Act.put, List.setIfInBounds_toArray, List.set_cons_zero, List.set_cons_succ])
          refine wpAnyH_take (i := 37) (oi := ?_) (v := undef) ?_ (by kernel_rfl) (by kernel_rfl) (by kernel_rfl) ?_ (Or.inr ⟨?_, rfl⟩) hHeld ?_
          rotate_left 1
          · simp only [List.getElem?_toArray, List.getElem?_cons_zero, List.getElem?_cons_succ]; rfl
          · exact fun _ _ _ h => h
          · rfl
          (try simp only [Act.put, List.setIfInBounds_toArray, List.set_cons_zero, List.set_cons_succ])
          refine wpAnyH_take (i := 38) (oi := ?_) (v := undef) ?_ (by kernel_rfl) (by kernel_rfl) (by kernel_rfl) ?_ (Or.inr ⟨?_, rfl⟩) hHeld ?_
          rotate_left 1
          · simp only [List.getElem?_toArray, List.getElem?_cons_zero, List.getElem?_cons_succ]; rfl
          · exact fun _ _ _ h => h
          · rfl
          (try simp only [Act.put, List.setIfInBounds_toArray, List.set_cons_zero, List.set_cons_succ])
          refine wpAnyH_take (i := 39) (oi := ?_) (v := ?_) ?_ (by kernel_rfl) (by kernel_rfl) (by kernel_rfl) ?_ (Or.inl ⟨?_, ?_⟩) hHeld ?_
          rotate_left 2
          · simp only [List.getElem?_toArray, List.getElem?_cons_zero, List.getElem?_cons_succ]; rfl
          · exact fun _ _ _ h => h
          · rfl
          · intro w' hSw; (try dsimp only at hSw); go_simp; (try with_reducible rfl)
          (try simp only [Act.put, List.setIfInBounds_toArray, List.set_cons_zero, List.set_cons_succ])
          refine wpAnyH_take (i := 40) (oi := ?_) (v := ?_) ?_ (by kernel_rfl) (by kernel_rfl) (by kernel_rfl) ?_ (Or.inl ⟨?_, ?_⟩) hHeld ?_
          rotate_left 2
          · simp only [List.getElem?_toArray, List.getElem?_cons_zero, List.getElem?_cons_succ]; rfl
          · exact fun _ _ _ h => h
          · rfl
          · intro w' hSw; (try dsimp only at hSw); go_simp; (try with_reducible rfl)
          (try simp only [Act.put, List.setIfInBounds_toArray, List.set_cons_zero, List.set_cons_succ])
          refine wpAnyH_done (by kernel_rfl) ?_ _
          have CW := Lib.hid (Ch.of_below (F := fun _ => False) (HBB.out.trans (hHeld.2.2.2.2.2.2.2.2.2.2.2.2.2.2.mono HBB.out.size)))
          clear hHeld q0 q1 q2 q3 q4 q5 hbx2 hhd2 hbx hhd
          go_wp2_with fail
          go_roundg (len - (k + 1))
          case measure => have := Hg.out; omega
          case rel => exact ⟨k + 1, cs', by omega, Lib.hid (by omega), by go_num, HT2.out.ch CW.out id id, HR2.out.ch CW.out id id, HO2.out, HC2.out.trans CW.out⟩
        · as_aux_lemma =>
          have e : getF cs' I = (CoreS.none, 3) := by unfold getF; rw [onCore_out hi]
          rw [e]
          have HBB := Lib.hid hB
          clear hB
          simp only [CoreS.val, CoreS.none]
          have hi2 : I < 0 ∨ (cs'.length : Int) ≤ I := hi
          go_wp2_with fail
          go_quiet ((go_at_call 49; exact Calls.quiet_of_same (is_out_q _ rb qb cap2 cs'.length _ (by first | assumption | go_simp) hfew hi2)))
          have CW := Lib.hid (Ch.of_below (F := fun _ => False) HBB.out)
          clear hbx2 hhd2 hbx hhd
          go_wp2_with fail

          go_roundg (len - (k + 1))
          case measure => have := Hg.out; omega
          case rel => exact ⟨k + 1, cs', by omega, Lib.hid (by omega), by go_num, HT2.out.ch (CW.out.trans (by (repeat' (first | with_reducible exact Ch.refl _ _ | (with_reducible refine Ch.alloc ?_ _) | (with_reducible refine Ch.drew ?_) | (with_reducible refine Ch.drewN ?_ _))))) id id, HR2.out.ch (CW.out.trans (by (repeat' (first | with_reducible exact Ch.refl _ _ | (with_reducible refine Ch.alloc ?_ _) | (with_reducible refine Ch.drew ?_) | (with_reducible refine Ch.drewN ?_ _))))) id id, HO2.out, HC2.out.trans (CW.out.trans (by (repeat' (first | with_reducible exact Ch.refl _ _ | (with_reducible refine Ch.alloc ?_ _) | (with_reducible refine Ch.drew ?_) | (with_reducible refine Ch.drewN ?_ _)))))⟩
    · have hout : k = len ∨ (k < len ∧ decide ((k : Int) < 150) = false) := by
        by_cases h : k < len
        · exact .inr ⟨h, by simp; omega⟩
        · exact .inl (by omega)
      clear hlt
      rcases hout with rfl | ⟨hlt, d150⟩
      all_goals
        go_wp2_with fail
        refine (CoreG.known_ok _).mono ?_
        rintro e w2 ⟨rfl, b2⟩
        go_wp2
        go_returns
        exact ⟨rfl, (HC.out.below (Nat.le_refl _) (fun _ _ h => h)).trans (b2.mono hz)⟩
set_option maxRecDepth 100000 in
set_option maxHeartbeats 1000000 in
theorem plays_walk (W : World) (i : Int) (w1 : (Lit.int .i64 i).wf = true) (a : Option Addr) (len cap : Nat) (V : Nat → Nat → Value) (hrow : StructRow W a len ks V) (hcap : len ≤ cap) (hl : len * 40 ≤ 140737488351232) :
    Calls Try.prog 11 #[.int .i64 i, .slice a len cap] W fun e W' => e = .returned (.bool true) ∧ Below W.heap.size W W' := by
  by_cases h : 1 ≤ i ∧ i ≤ 64
  · obtain ⟨n, rfl⟩ : ∃ n : Nat, i = n := ⟨i.toNat, by omega⟩
    exact walk_yes W n (by omega) (by omega) a len cap V hrow hcap hl
  · have h' : i < 1 ∨ 64 < i := by omega
    have N1 := Lib.hid (fun w => new_no w i h')
    have N2 := Lib.hid (fun w => rnew_no w i h')
    clear h h' w1 hrow
    go_enter Try.func11, Try.ntmps11
    go_wp2_with (first
      | (go_at_call 36; refine (N1.out _).mono ?_; rintro e w' ⟨rfl, rfl⟩)
      | (go_at_call 37; refine (N2.out _).mono ?_; rintro e w' ⟨rfl, rfl⟩)
      | (go_at_call 30; refine (CoreG.known_ok _).mono ?_; rintro e w' ⟨rfl, b2⟩))
    go_returns
    exact ⟨rfl, b2⟩
end Go.Proofs.Ytpefmgmhclbcbaa.WalkCorePlays
