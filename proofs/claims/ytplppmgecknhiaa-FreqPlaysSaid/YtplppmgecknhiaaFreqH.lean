/- Contracts of the document's Freq and Feed. -/
import Derived.Test.YtplppmgecknhiaaFreqG
namespace Go.Proofs.Ytplppmgecknhiaa.FreqH
open Go.RowKit Go.Proofs.Ytplppmgecknhiaa.NumD Go.Proofs.Ytplppmgecknhiaa.NumE Go.Proofs.Ytplppmgecknhiaa.NumF Go.Proofs.Ytplppmgecknhiaa.Frame Go.Proofs.Ytplppmgecknhiaa.FreqA Go.Proofs.Ytplppmgecknhiaa.FreqB Go.Proofs.Ytplppmgecknhiaa.FreqF Go.Proofs.Ytplppmgecknhiaa.FreqG
set_option linter.unusedVariables false
set_option linter.unusedSimpArgs false
theorem rbusy_q (w : World) (r : Nat) (lo hi : Int) (v : Value) (l : List (Int × Int)) (h : RGov w r lo hi v l) (gl : goods l) (h100 : l.length ≤ 100) (B : Int) (hB : rbusyF l = B) :
    Calls Try.prog 51 #[.pointer (some ⟨r, 0, none⟩)] w fun e w' => e = .returned (.int .i64 B) ∧ w' = w := (rbusy_any w r lo hi v l h gl h100).mono fun e w' k => ⟨hB ▸ k.1, k.2.symm⟩
theorem rscale_q (lo hi p : Int) (hl : In64 lo) (hh : In64 hi) (F : Int) (hF : scaleF lo hi p = F) (w : World) : Calls Try.prog 16 #[.int .i64 lo, .int .i64 hi, .int .i64 p] w fun e w' => e = .returned (.int .i64 F) ∧ w' = w :=
  (WalkNumScales.rscale_any lo hi p hl hh w).mono fun e w' k => ⟨hF ▸ k.1, k.2.symm⟩
set_option maxRecDepth 100000 in
theorem rfreq_is (w : World) (r : Nat) (lo hi : Int) (v : Value) (l : List (Int × Int)) (h : RGov w r lo hi v l) (gl : goods l) (h100 : l.length ≤ 100) (rt : rightB lo hi = true) (F : Int) (hF : scaleF lo hi (rbusyF l) = F) :
    Calls Try.prog 49 #[.pointer (some ⟨r, 0, none⟩)] w fun e w' => e = .returned (.int .i64 F) ∧ ∃ n, w' = w.drewN n := by
  have hl := Lib.hid (show In64 lo from ⟨by have := right_in rt; omega, by have := right_in rt; omega⟩)
  have hh := Lib.hid (show In64 hi from ⟨by have := right_in rt; omega, by have := right_in rt; omega⟩)
  have H := Lib.hid h
  have HG := Lib.hid gl
  have H100 := Lib.hid h100
  obtain ⟨c0, c1, c2, fz, own, lt⟩ := h
  obtain ⟨B, hB⟩ : ∃ B, rbusyF l = B := ⟨_, rfl⟩
  rw [hB] at hF
  have HB := Lib.hid hB
  have HF := Lib.hid hF
  clear own gl rt hB hF h100 c2 fz
  go_enter Try.func49, Try.ntmps49
  go_wp2
  go_quiet ((first
    | (go_at_call 51; exact Calls.quiet_of_same (rbusy_q _ r lo hi v l (H.out.below (below_drewN (Below.refl _ _) _)) HG.out H100.out B HB.out))
    | (go_at_call 16; exact Calls.quiet_of_same (rscale_q lo hi B hl.out hh.out F HF.out _))))
  go_wp2
  go_returns
  exact ⟨rfl, _, rfl⟩
theorem rfreq_with (w0 w : World) (r : Nat) (lo hi : Int) (v : Value) (l : List (Int × Int)) (h : RGov w r lo hi v l ∧ Ch (fun x => r ≤ x) w0 w) (gl : goods l) (h100 : l.length ≤ 100) (rt : rightB lo hi = true) (F : Int) (hF : scaleF lo hi (rbusyF l) = F) :
    Calls Try.prog 49 #[.pointer (some ⟨r, 0, none⟩)] w fun e w' => e = .returned (.int .i64 F) ∧ RGov w' r lo hi v l ∧ Ch (fun x => r ≤ x) w0 w' :=
  (rfreq_is w r lo hi v l h.1 gl h100 rt F hF).mono fun e w' k => by
    obtain ⟨k1, n, k2⟩ := k
    subst k2
    exact ⟨k1, h.1.below (below_drewN (Below.refl _ _) _), h.2.drewN n⟩
theorem rfeed_bad (w : World) (r : Nat) (b a : Int) (gd : ¬ good b a) :
    Calls Try.prog 47 #[.pointer (some ⟨r, 0, none⟩), .int .i64 b, .int .i64 a] w fun e w' => e = .returned (.tuple #[.int .i64 0, .int .i64 2]) ∧ w = w' := by
  have hcase : b < 0 ∨ (0 ≤ b ∧ a < b) ∨ (0 ≤ b ∧ b ≤ a ∧ 1099511627776 < a) := by unfold good at gd; omega
  clear gd
  rcases hcase with h | ⟨h, h2⟩ | ⟨h, h2, h3⟩
  all_goals
    go_enter Try.func47, Try.ntmps47
    go_wp2
    go_returns
    exact ⟨rfl, rfl⟩
theorem info93 : (Try.prog.info? 93).map (fun i => (i.zero, i.size, i.bytes)) = some (some (.agg #[.int .i64 0, .int .i64 0]), 2, 16) := by kernel_rfl
theorem info_parts {i? : Option TypeInfo} {z : Value} {s b : Nat} (h : i?.map (fun i => (i.zero, i.size, i.bytes)) = some (some z, s, b)) : ∃ i, i? = some i ∧ i.zero = some z ∧ i.size = s ∧ i.bytes = b := by
  cases i? with
  | none => simp at h
  | some i => simp at h; exact ⟨i, rfl, h.1, h.2.1, h.2.2⟩
set_option maxRecDepth 100000 in
set_option maxHeartbeats 1000000 in
theorem rfeed_ok (w : World) (r : Nat) (lo hi : Int) (v : Value) (l : List (Int × Int)) (h : RGov w r lo hi v l) (gl : goods l) (h100 : l.length < 100) (rt : rightB lo hi = true) (b a : Int) (gd : good b a) (F : Int) (hF : scaleF lo hi (rbusyF (l ++ [(b, a)])) = F) :
    Calls Try.prog 47 #[.pointer (some ⟨r, 0, none⟩), .int .i64 b, .int .i64 a] w fun e w' => e = .returned (.tuple #[.int .i64 F, .int .i64 0]) ∧ (∃ v', RGov w' r lo hi v' (l ++ [(b, a)])) ∧ Ch (fun x => r ≤ x) w w' := by
  obtain ⟨i0, hi0, hz0, hz1, hz2⟩ := info_parts info93
  have HG2 := Lib.hid (goods_snoc gl (p := (b, a)) gd)
  have HF := Lib.hid hF
  have RT := Lib.hid rt
  have H := Lib.hid h
  obtain ⟨c0, c1, c2, fz, own, lt⟩ := h
  obtain ⟨g1, g2, g3⟩ := gd
  clear gl hF rt
  go_enter Try.func47, Try.ntmps47
  go_wp2_with (at_builtin; refine wpList_append_own _ rfl _ _ 59 rfl (r + 1) 93 i0 _ 2 16 Try.underlying59 hi0 hz0 hz1 hz2 rfl (by decide) _ _ _ rfl (own.alloc _) ⟨w.heap.size, 0, none⟩ 1 1 (cellsOf (b, a)) rfl rfl ?c1 ?c2 ?c3 ?c4 ?c5 ?_)
  case c1 =>
    intro j u hj
    match j, hj with
    | 0, hj => simp [cellsOf] at hj; subst hj; simp [Addr.add]
    | 1, hj => simp [cellsOf] at hj; subst hj; simp [Addr.add]
    | j + 2, hj => simp [cellsOf] at hj
  case c2 =>
    intro u hu
    simp only [cellsOf, List.mem_cons, List.not_mem_nil, or_false] at hu
    rcases hu with rfl | rfl <;> rfl
  case c3 => unfold maxLen; omega
  case c4 => omega
  case c5 => simp; omega
  intro v' w1 hown' hgrow _
  have hex : ∃ g' cap', v' = .slice (some ⟨g', 0, none⟩) (l.length + 1) cap' := by
    rcases hown'.2 with ⟨_, h0⟩ | ⟨g', cap', cur, hv, _⟩
    · omega
    · exact ⟨g', cap', hv⟩
  obtain ⟨g', cap', hv'⟩ := hex
  rw [hv'] at hown' ⊢
  clear hv'
  have hb : ∀ k, v.ownBlock = some k → r < k := by
    rcases own.2 with ⟨rfl, _⟩ | ⟨g, cap, cur, rfl, hg, _⟩
    · simp [Value.ownBlock]
    · simp [Value.ownBlock]; omega
  have hblk : ∀ k, k ≤ r → w1.heap[k]? = w.heap[k]? := fun k hk => (hgrow.block k (by simp; omega) (fun e => by have := hb k e.symm; omega)).trans (Below.heap_alloc _ _ _ (by omega))
  have d0 : w1.cell? ⟨r, 0, none⟩ = some (.int .i64 lo) := (World.cell?_of_block (w := w) (hblk r (Nat.le_refl _))).trans c0
  have d1 : w1.cell? ⟨r, 1, none⟩ = some (.int .i64 hi) := (World.cell?_of_block (w := w) (hblk r (Nat.le_refl _))).trans c1
  have d2 : w1.cell? ⟨r, 2, none⟩ = some v := (World.cell?_of_block (w := w) (hblk r (Nat.le_refl _))).trans c2
  have df : ∀ o, w1.frozen? ⟨r, o, none⟩ = false := fun o => (World.frozen?_of_block (w := w) (hblk r (Nat.le_refl _))).trans (fz o)
  have ds : w.heap.size < w1.heap.size := by have := hgrow.size; simp at this; omega
  have dz : r < w1.heap.size := by omega
  have HC1 : Ch (fun x => r ≤ x) w w1 := ⟨hgrow.os, hgrow.tape, hgrow.output, by omega, fun q hq hF => hblk q (by omega)⟩
  have C1 := Lib.hid HC1
  have H2 := Lib.hid hown'
  clear HC1 hown' hgrow own hb hblk c0 c1 c2 fz hi0 hz0 hz1 hz2 lt
  go_wp2_with fail
  refine (rfreq_with w _ r lo hi (.slice (some ⟨g', 0, none⟩) (l.length + 1) cap') (l ++ [(b, a)]) ⟨⟨?_, ?_, ?_, ?_, ?own, ?_⟩, ?_⟩ HG2.out (by simp; omega) RT.out F HF.out).mono ?fin
  case fin =>
    rintro e w2 ⟨rfl, k1, k2⟩
    go_wp2
    go_returns
    exact ⟨rfl, ⟨_, k1⟩, k2⟩
  case own =>
    have := H2.out
    rw [← flat_snoc] at this
    rw [List.length_append]
    exact ownsRow_setCell_below this (by simp) _
  all_goals first
    | (go_simp; done)
    | (intro o; go_simp; done)
    | exact C1.out.setCell (fun _ => Nat.le_refl _) _
end Go.Proofs.Ytplppmgecknhiaa.FreqH
