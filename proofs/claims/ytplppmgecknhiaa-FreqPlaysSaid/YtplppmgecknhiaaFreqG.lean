/- Contracts of the document's governor. -/
import Derived.Test.YtplppmgecknhiaaFreqF
import Derived.Test.YtplppmgecknhiaaFreqB
import Derived.Test.YtplppmgecknhiaaNumF
import Derived.Test.YtplppmgecknhiaaWalkNumScales
import Derived.OwnWalk
import Derived.Laws.OwnMore
import Derived.LoopTactic
namespace Go.Proofs.Ytplppmgecknhiaa.FreqG
open Go.RowKit Go.Proofs.Ytplppmgecknhiaa.NumD Go.Proofs.Ytplppmgecknhiaa.NumE Go.Proofs.Ytplppmgecknhiaa.NumF Go.Proofs.Ytplppmgecknhiaa.Frame Go.Proofs.Ytplppmgecknhiaa.FreqA Go.Proofs.Ytplppmgecknhiaa.FreqB Go.Proofs.Ytplppmgecknhiaa.FreqF
set_option linter.unusedVariables false
set_option linter.unusedSimpArgs false
/-- The document's governor lies in a block, its list in a block behind it. -/
structure RGov (w : World) (r : Nat) (lo hi : Int) (v : Value) (l : List (Int × Int)) : Prop where
  c0 : w.cell? ⟨r, 0, none⟩ = some (.int .i64 lo)
  c1 : w.cell? ⟨r, 1, none⟩ = some (.int .i64 hi)
  c2 : w.cell? ⟨r, 2, none⟩ = some v
  fz : ∀ o, w.frozen? ⟨r, o, none⟩ = false
  own : w.ownsRow (r + 1) 93 2 v l.length (flat l)
  lt : r < w.heap.size
theorem RGov.slice {w : World} {r : Nat} {lo hi : Int} {v : Value} {l : List (Int × Int)} (h : RGov w r lo hi v l) : ∃ a cap, v = .slice a l.length cap := by
  rcases h.own.2 with ⟨e, h0⟩ | ⟨g, cap, cur, hv, _⟩
  · exact ⟨_, _, by rw [e, h0]⟩
  · exact ⟨_, _, hv⟩
theorem RGov.below {w w' : World} {r : Nat} {lo hi : Int} {v : Value} {l : List (Int × Int)} (h : RGov w r lo hi v l) (hb : Below w.heap.size w w') : RGov w' r lo hi v l :=
  ⟨(hb.cell h.lt).trans h.c0, (hb.cell h.lt).trans h.c1, (hb.cell h.lt).trans h.c2, fun o => (hb.frozen h.lt).trans (h.fz o),
   h.own.kept (row := none) ⟨hb.os, hb.tape, hb.output, hb.size, fun k hk _ => hb.block k hk⟩ (by cases hv : v.ownBlock <;> simp), Nat.lt_of_lt_of_le h.lt hb.size⟩
theorem RGov.at {w : World} {r : Nat} {lo hi : Int} {v : Value} {l : List (Int × Int)} (h : RGov w r lo hi v l) (hp : 0 < l.length) :
    ∃ g cap, v = .slice (some ⟨g, 0, none⟩) l.length cap ∧ g < w.heap.size ∧ l.length ≤ cap ∧ ∀ k, k < l.length → w.cell? ⟨g, k * 2, none⟩ = some (.int .i64 (l.getD k (0, 0)).1) ∧ w.cell? ⟨g, k * 2 + 1, none⟩ = some (.int .i64 (l.getD k (0, 0)).2) := by
  rcases h.own.2 with ⟨e, h0⟩ | ⟨g, cap, cur, hv, hg, hh, hc, hm, hs, ht⟩
  · omega
  · refine ⟨g, cap, hv, lt_of_block hh, hc, fun k hk => ?_⟩
    have hown := h.own
    rw [hv] at hown
    obtain ⟨f0, f1⟩ := flat_get l k hk
    exact ⟨(hown.cellAt (k * 2) (by omega)).trans f0, (hown.cellAt (k * 2 + 1) (by omega)).trans f1⟩
theorem rright_any (lo hi : Int) (w : World) : Calls Try.prog 71 #[.int .i64 lo, .int .i64 hi] w fun e w' => e = .returned (.bool (rightB lo hi)) ∧ w = w' := by
  have hcase : lo < 1 ∨ (1 ≤ lo ∧ 100000 < hi) ∨ (1 ≤ lo ∧ hi ≤ 100000) := by omega
  rcases hcase with a | ⟨a, b⟩ | ⟨a, b⟩
  · have e : rightB lo hi = false := by simp [rightB]; omega
    rw [e]
    go_enter Try.func71, Try.ntmps71
    go_wp2
    go_returns
    exact ⟨rfl, rfl⟩
  · have e : rightB lo hi = false := by simp [rightB]; omega
    rw [e]
    go_enter Try.func71, Try.ntmps71
    go_wp2
    go_returns
    exact ⟨rfl, rfl⟩
  · have e : rightB lo hi = decide (lo ≤ hi) := by simp [rightB, a, b]
    rw [e]
    go_enter Try.func71, Try.ntmps71
    go_wp2
    go_returns
    exact ⟨rfl, rfl⟩
theorem rnew_bad (w : World) (lo hi : Int) (rt : rightB lo hi = false) :
    Calls Try.prog 44 #[.int .i64 lo, .int .i64 hi] w fun e w' => e = .returned (.tuple #[.pointer none, .int .i64 2]) ∧ w = w' := by
  go_enter Try.func44, Try.ntmps44
  go_wp2_with fail
  refine (rright_any lo hi _).mono ?_
  rintro e w1 ⟨rfl, rfl⟩
  rw [rt]
  go_wp2
  go_returns
  exact ⟨rfl, rfl⟩
set_option maxRecDepth 100000 in
theorem rnew_ok (w : World) (lo hi : Int) (rt : rightB lo hi = true) :
    Calls Try.prog 44 #[.int .i64 lo, .int .i64 hi] w fun e w' => e = .returned (.tuple #[.pointer (some ⟨w.heap.size, 0, none⟩), .int .i64 0]) ∧ RGov w' w.heap.size lo hi (.slice none 0 0) [] ∧ Below w.heap.size w w' := by
  go_enter Try.func44, Try.ntmps44
  go_wp2_with fail
  refine (rright_any lo hi _).mono ?_
  rintro e w1 ⟨rfl, rfl⟩
  rw [rt]
  go_wp2
  go_returns
  refine ⟨rfl, ⟨?_, ?_, ?_, ?_, World.ownsRow_nil _ _ _ _, ?_⟩, ?_⟩
  all_goals first
    | (go_simp; done)
    | (intro o; go_simp; done)
    | go_grown
theorem rset_bad (w : World) (r : Nat) (lo hi : Int) (rt : rightB lo hi = false) :
    Calls Try.prog 46 #[.pointer (some ⟨r, 0, none⟩), .int .i64 lo, .int .i64 hi] w fun e w' => e = .returned (.int .i64 2) ∧ w = w' := by
  go_enter Try.func46, Try.ntmps46
  go_wp2_with fail
  refine (rright_any lo hi _).mono ?_
  rintro e w1 ⟨rfl, rfl⟩
  rw [rt]
  go_wp2
  go_returns
  exact ⟨rfl, rfl⟩
set_option maxRecDepth 100000 in
theorem rset_ok (w : World) (r : Nat) (lo0 hi0 : Int) (v : Value) (l : List (Int × Int)) (h : RGov w r lo0 hi0 v l) (lo hi : Int) (rt : rightB lo hi = true) :
    Calls Try.prog 46 #[.pointer (some ⟨r, 0, none⟩), .int .i64 lo, .int .i64 hi] w fun e w' => e = .returned (.int .i64 0) ∧ RGov w' r lo hi v l ∧ Ch (· = r) w w' := by
  obtain ⟨c0, c1, c2, fz, own, lt⟩ := h
  have OWN := Lib.hid own
  clear own
  go_enter Try.func46, Try.ntmps46
  go_wp2_with fail
  refine (rright_any lo hi _).mono ?_
  rintro e w1 ⟨rfl, rfl⟩
  rw [rt]
  go_wp2
  go_returns
  refine ⟨rfl, ⟨?_, ?_, ?_, ?_, ?own, ?_⟩, ?_⟩
  case own => exact ownsRow_setCell_below (ownsRow_setCell_below OWN.out (by simp) _) (by simp) _
  all_goals first
    | (go_simp; done)
    | (intro o; go_simp; done)
    | (repeat' (first | with_reducible exact Ch.refl _ _ | with_reducible assumption | (with_reducible refine Ch.setCell ?_ ?_ _) | (with_reducible refine Ch.alloc ?_ _) | (with_reducible refine Ch.drew ?_) | (with_reducible refine Ch.drewN ?_ _) | (intro _; rfl)))
def rbusyF (l : List (Int × Int)) : Int := percentF (lastK l Prod.fst l.length) (lastK l Prod.snd l.length)
set_option maxRecDepth 100000 in
set_option maxHeartbeats 1000000 in
theorem rbusy_any (w : World) (r : Nat) (lo hi : Int) (v : Value) (l : List (Int × Int)) (h : RGov w r lo hi v l) (gl : goods l) (h100 : l.length ≤ 100) :
    Calls Try.prog 51 #[.pointer (some ⟨r, 0, none⟩)] w fun e w' => e = .returned (.int .i64 (rbusyF l)) ∧ w = w' := by
  obtain ⟨a, cap, rfl⟩ := h.slice
  have H := Lib.hid h
  have GL := Lib.hid gl
  obtain ⟨c0, c1, c2, fz, own, lt⟩ := h
  obtain ⟨n, hn⟩ : ∃ n, n = l.length := ⟨_, rfl⟩
  rw [← hn] at c2 h100
  have HN := Lib.hid hn
  obtain ⟨R, hR⟩ : ∃ R, R = rbusyF l := ⟨_, rfl⟩
  rw [← hR]
  have HRr := Lib.hid hR
  clear gl fz own hn hR c0 c1
  go_enter Try.func51, Try.ntmps51
  go_wp2
  go_loopw [3, 4, 5] (fun b t i wr => ∃ (k : Nat), k ≤ n ∧ i = .int .i64 k ∧ b = .int .i64 (lastK l Prod.fst k) ∧ t = .int .i64 (lastK l Prod.snd k) ∧ w = wr) (fun _ _ i _ => n - (intOf i).toNat)
  case atStart => exact ⟨0, Nat.zero_le _, rfl, rfl, rfl, rfl⟩
  case round =>
    obtain ⟨k, hk, rfl, rfl, rfl, rfl⟩ := hrel
    have hX := lastK_in GL.out k (by have := HN.out; omega)
    by_cases hlt : k < n
    · obtain ⟨g, cap', hv, hg, hcap, hcells⟩ := H.out.at (by have := HN.out; omega)
      obtain ⟨e0, e1⟩ := hcells k (by have := HN.out; omega)
      have hgood := goods_at GL.out (show k < l.length by have := HN.out; omega)
      obtain ⟨g1, g2, g3⟩ := hgood
      obtain ⟨rfl, hcc⟩ : a = some ⟨g, 0, none⟩ ∧ cap = cap' := by simpa using hv
      subst hcc
      clear hv hcells
      have s0 := Lib.hid (show lastK l Prod.fst (k + 1) = lastK l Prod.fst k + (if n ≤ k + 4 then (l.getD k (0, 0)).1 else 0) by rw [HN.out]; rfl)
      have s1 := Lib.hid (show lastK l Prod.snd (k + 1) = lastK l Prod.snd k + (if n ≤ k + 4 then (l.getD k (0, 0)).2 else 0) by rw [HN.out]; rfl)
      have hcap2 : n ≤ cap := by have := HN.out; omega
      obtain ⟨x1, x2, x3, x4⟩ := hX
      clear hcap
      generalize l.getD k (0, 0) = p at *
      obtain ⟨pb, pa⟩ := p
      simp only [] at g1 g2 g3 e0 e1 s0 s1
      generalize lastK l Prod.fst k = X at *
      generalize lastK l Prod.snd k = Y at *
      by_cases h4 : n ≤ k + 4
      · have w0 : wrap64 (X + pb) = X + pb := by unfold wrap64; omega
        have w1 : wrap64 (Y + pa) = Y + pa := by unfold wrap64; omega
        have t0 := s0.out
        have t1 := s1.out
        rw [if_pos h4] at t0 t1
        have T0 := Lib.hid t0
        have T1 := Lib.hid t1
        clear g1 g2 g3 x1 x2 x3 x4 t0 t1 s0 s1
        go_wp2
        refine ⟨⟨k + 1, by omega, rfl, by rw [T0.out, w0], by rw [T1.out, w1], trivial⟩, ?_⟩
        simp [intOf]
        omega
      · have t0 := s0.out
        have t1 := s1.out
        rw [if_neg h4] at t0 t1
        have T0 := Lib.hid t0
        have T1 := Lib.hid t1
        clear g1 g2 g3 x1 x2 x3 x4 t0 t1 s0 s1
        go_wp2
        refine ⟨⟨k + 1, by omega, rfl, by rw [T0.out, Int.add_zero], by rw [T1.out, Int.add_zero], trivial⟩, ?_⟩
        simp [intOf]
        omega
    · obtain rfl : k = n := by omega
      go_wp2_with fail
      obtain ⟨x1, x2, x3, x4⟩ := hX
      refine (rpercent_any _ _ ⟨by omega, by omega⟩ ⟨by omega, by omega⟩ _).mono ?_
      rintro e w2 ⟨rfl, rfl⟩
      have hr : percentF (lastK l Prod.fst k) (lastK l Prod.snd k) = R := by rw [HRr.out, rbusyF, ← HN.out]
      rw [hr]
      clear hr x1 x2 x3 x4
      go_wp2
      go_returns
      exact ⟨rfl, rfl⟩
end Go.Proofs.Ytplppmgecknhiaa.FreqG
