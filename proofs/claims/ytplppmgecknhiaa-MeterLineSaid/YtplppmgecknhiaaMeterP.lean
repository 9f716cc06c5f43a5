/- The walk of MeterLine: for any three floats and any floats in a list the law returns true. Condition: the row's own bounds. -/
import Derived.Test.YtplppmgecknhiaaMeterN
import Derived.Test.YtplppmgecknhiaaMeterO
import Derived.Deep.DeepCutAuto
import Derived.OwnWalk
import Derived.Laws.OwnMore
namespace Go.Proofs.Ytplppmgecknhiaa.MeterP
open Go.RowKit Go.Proofs.Ytplppmgecknhiaa.MeterA Go.Proofs.Ytplppmgecknhiaa.MeterB Go.Proofs.Ytplppmgecknhiaa.MeterC Go.Proofs.Ytplppmgecknhiaa.MeterD Go.Proofs.Ytplppmgecknhiaa.MeterH Go.Proofs.Ytplppmgecknhiaa.MeterM Go.Proofs.Ytplppmgecknhiaa.OpenB Go.Proofs.Ytplppmgecknhiaa.MeterN Go.Proofs.Ytplppmgecknhiaa.MeterO
set_option linter.unusedVariables false
set_option linter.unusedSimpArgs false
theorem Try.info42 : (Try.prog.info? 42).map (fun i => (i.zero, i.size, i.bytes)) = some (some (.float .f64 0), 1, 8) := by kernel_rfl
theorem below_grown {B : Nat} {a w w' : World} {v : Value} {e : TypeId} {size n : Nat} {xs : List Value} (h : Below B a w) (hown : w.ownsRow B e size v n xs) (hg : w.grownBy w' v.ownBlock) (hB : B ≤ w.heap.size) : Below B a w' :=
  ⟨hg.os.trans h.os, hg.tape.trans h.tape, hg.output.trans h.output, Nat.le_trans h.size hg.size, fun i hi => (hg.block i (by omega) (fun e => by
    have := hown.lt i e.symm
    omega)).trans (h.block i hi)⟩
theorem same_v (a b : Nat) (ha : a < 18446744073709551616) (hb : b < 18446744073709551616) (h : orderF a b = 0) (w : World) : Calls Try.prog 40 #[.float .f64 a, .float .f64 b] w fun e w' => e = .returned (.bool true) ∧ w = w' := by
  have := same_any a b ha hb w
  rwa [h, decide_eq_true rfl] at this
theorem order_v (a b : Nat) (ha : a < 18446744073709551616) (hb : b < 18446744073709551616) (v : Int) (h : orderF a b = v) (w : World) : Calls Try.prog 54 #[.float .f64 a, .float .f64 b] w fun e w' => e = .returned (.int .i64 v) ∧ w = w' := h ▸ order_any a b ha hb w
set_option maxRecDepth 100000 in
set_option maxHeartbeats 4000000 in
theorem line_few (W : World) (a : Nat) (ha : a < 18446744073709551616) (b : Nat) (hb : b < 18446744073709551616) (c : Nat) (hc : c < 18446744073709551616) (s : Option Addr) (len cap : Nat) (z : Nat → Nat) (hrow : IsFloats W s len z) (hl : len ≤ 100) :
    Calls Try.prog 14 #[.float .f64 a, .float .f64 b, .float .f64 c, .slice s len cap] W fun e W' => e = .returned (.bool true) ∧ Below W.heap.size W W' := by
  obtain ⟨x, y, o, e1, e2, e3, e4, hways⟩ := line a b c
  have C1 := Lib.hid (fun w => order_v a b ha hb _ e1 w)
  have C2 := Lib.hid (fun w => order_v b c hb hc _ e2 w)
  have C3 := Lib.hid (fun w => order_v b a hb ha _ e3 w)
  have C4 := Lib.hid (fun w => order_v a c ha hc _ e4 w)
  have C5 := Lib.hid (fun w => order_v a a ha ha _ (orderF_self a) w)
  have HR := Lib.hid hrow
  have HW := Lib.hid hways
  clear ha hb hc e1 e2 e3 e4 hrow hways
  go_enter Try.func14, Try.ntmps14
  go_upto_region 5 with (go_at_call 54; first | (with_reducible refine (C1.out _).mono ?_; rintro e w' ⟨rfl, rfl⟩) | (with_reducible refine (C2.out _).mono ?_; rintro e w' ⟨rfl, rfl⟩))
  go_cut [62] (fun v wx => v = .bool false ∧ W = wx)
  case first =>
    have hways := HW.out
    clear HW HR
    rcases hways with ⟨rfl, rfl | rfl | rfl⟩ | ⟨rfl | rfl, rfl⟩ | ⟨rfl, rfl, rfl⟩ | ⟨rfl, rfl, rfl⟩ | ⟨rfl, rfl, rfl⟩ | ⟨rfl, rfl, rfl⟩
    all_goals
      go_wp2_with (go_at_call 54; first | (with_reducible refine (C3.out _).mono ?_; rintro e w' ⟨rfl, rfl⟩) | (with_reducible refine (C4.out _).mono ?_; rintro e w' ⟨rfl, rfl⟩) | (with_reducible refine (C5.out _).mono ?_; rintro e w' ⟨rfl, rfl⟩))
      go_meet
      exact ⟨rfl, rfl⟩
  case rest =>
    obtain ⟨rfl, rfl⟩ := hcut
    clear C1 C2 C3 C4 C5 HW
    obtain ⟨i0, hi, hz0, hz1, hz2⟩ := info_parts Try.info42
    go_wp2_with fail
    go_loopw [11, 12] (fun v i wr => ∃ k m : Nat, Hid (k + m = len) ∧ m ≤ 100 ∧ i = .int .i64 k ∧ wr.ownsRow W.heap.size 42 1 v m (backs z len m) ∧ Below W.heap.size W wr) (fun _ i _ => (intOf i).toNat)
    case atStart => exact ⟨len, 0, Lib.hid rfl, by omega, rfl, World.ownsRow_nil _ _ _ _, Below.refl _ _⟩
    case round =>
      obtain ⟨k, m, hkm, hm, rfl, hown, hbel⟩ := hrel
      have hsz := hbel.size
      have HB := Lib.hid hbel
      clear hbel
      rcases Nat.eq_zero_or_pos k with rfl | hp
      · obtain rfl : m = len := by have := hkm.out; omega
        obtain ⟨a2, cap2, rfl, hfl⟩ := floats_of_own hown (fun i hi => by obtain ⟨ad, rfl⟩ := HR.out.1 (by omega); exact (HR.out.2 i hi _ rfl).2)
        have hfr := floats_below HR.out HB.out
        have A1 := Lib.hid (most_any s m cap z wr hfr (by omega))
        have A2 := Lib.hid (most_any a2 m cap2 _ wr hfl (by omega))
        have A3 := Lib.hid (least_any s m cap z wr hfr (by omega))
        have A4 := Lib.hid (least_any a2 m cap2 _ wr hfl (by omega))
        have S1 := Lib.hid (same_v _ _ (best_bound 1 hfr) (best_bound 1 hfl) (most_alike (n := m) (fun i hi => rfl)) wr)
        have S2 := Lib.hid (same_v _ _ (best_bound (-1) hfr) (best_bound (-1) hfl) (least_alike (n := m) (fun i hi => rfl)) wr)
        clear hown HR hfr hfl
        generalize bestN z 1 m = p1 at *
        generalize bestN z (-1) m = p2 at *
        generalize bestN (fun i => z (m - 1 - i)) 1 m = p3 at *
        generalize bestN (fun i => z (m - 1 - i)) (-1) m = p4 at *
        go_wp2_with (first
          | (go_at_call 56; first | (with_reducible refine (A1.out).mono ?_; rintro e w' ⟨rfl, rfl⟩) | (with_reducible refine (A2.out).mono ?_; rintro e w' ⟨rfl, rfl⟩))
          | (go_at_call 58; first | (with_reducible refine (A3.out).mono ?_; rintro e w' ⟨rfl, rfl⟩) | (with_reducible refine (A4.out).mono ?_; rintro e w' ⟨rfl, rfl⟩))
          | (go_at_call 40; first | (with_reducible refine (S1.out).mono ?_; rintro e w' ⟨rfl, rfl⟩) | (with_reducible refine (S2.out).mono ?_; rintro e w' ⟨rfl, rfl⟩))
          | (go_at_call 43; refine (known_ok _).mono ?_; rintro e w' ⟨rfl, hb⟩))
        go_returns
        exact ⟨rfl, HB.out.trans (hb.mono hsz)⟩
      · obtain ⟨q, rfl⟩ : ∃ q, k = q + 1 := ⟨k - 1, by omega⟩
        have hq : q < len := by have := hkm.out; omega
        obtain ⟨b2, off, rfl, hbz, hall⟩ := floats_at HR.out (by omega)
        have hcell : wr.cell? ⟨b2, off + q, none⟩ = some (.float .f64 (z q)) := (HB.out.cell hbz).trans (hall q hq).1
        have hz : z (len - 1 - m) = z q := by congr 1; have := hkm.out; omega
        have HZ := Lib.hid hz
        clear hall hz
        go_wp2_with (at_builtin; refine wpList_append_own _ rfl _ _ 63 rfl W.heap.size 42 i0 (.float .f64 0) 1 8 Try.underlying63 hi hz0 hz1 hz2 rfl (by decide) _ _ _ rfl (hown.alloc _) ⟨wr.heap.size, 0, none⟩ 1 1 [.float .f64 (z q)] rfl rfl ?c1 ?c2 ?c3 ?c4 ?c5 ?_)
        case c1 =>
          intro j u hj
          rcases j with _ | j
          · simp at hj
            subst hj
            simp [World.cell?_alloc_new, Addr.add]
          · simp at hj
        case c2 => intro u hu; simp at hu; subst hu; rfl
        case c3 => unfold maxLen; omega
        case c4 => omega
        case c5 => simp; omega
        intro v' w1 hown1 hgrow _
        have HOWN : Hid (w1.ownsRow W.heap.size 42 1 v' (m + 1) (backs z len (m + 1))) := Lib.hid (by rw [backs_succ, HZ.out]; exact hown1)
        have HG := Lib.hid (below_grown (HB.out.alloc hsz _) (hown.alloc _) hgrow (by simp; omega))
        clear hown1 hgrow hown
        go_wp2
        go_roundw
        case rel => exact ⟨q, m + 1, Lib.hid (by have := hkm.out; omega), by have := hkm.out; omega, by go_num, HOWN.out, HG.out⟩
        case measure => simp [intOf]
theorem line_walk (W : World) (a : Nat) (ha : a < 18446744073709551616) (b : Nat) (hb : b < 18446744073709551616) (c : Nat) (hc : c < 18446744073709551616) (s : Option Addr) (len cap : Nat) (z : Nat → Nat) (hrow : IsFloats W s len z) (hcap : len ≤ cap) (hbytes : len * 8 ≤ 140737488351232) :
    Calls Try.prog 14 #[.float .f64 a, .float .f64 b, .float .f64 c, .slice s len cap] W fun e W' => e = .returned (.bool true) ∧ Below W.heap.size W W' := by
  by_cases hl : 100 < len
  · clear hrow ha hb hc
    go_enter Try.func14, Try.ntmps14
    go_wp2_with (go_at_call 43; refine (known_ok _).mono ?_; rintro e w' ⟨rfl, hb⟩)
    go_returns
    exact ⟨rfl, hb⟩
  · exact line_few W a ha b hb c hc s len cap z hrow (by omega)
end Go.Proofs.Ytplppmgecknhiaa.MeterP
