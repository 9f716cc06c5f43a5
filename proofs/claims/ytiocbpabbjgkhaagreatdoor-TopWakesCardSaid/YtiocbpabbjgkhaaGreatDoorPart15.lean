/- Part 15 of the proof: contracts and plain laws, each under the conditions that it names. -/
import Derived.Test.YtiocbpabbjgkhaaGreatDoorPart14
set_option maxRecDepth 100000
set_option maxHeartbeats 20000000
set_option linter.unusedVariables false
set_option linter.unusedSimpArgs false
namespace Go.Proofs.YtiocbpabbjgkhaaGreatDoor
open Go.RowKit Tryz
variable {w w' : World} {F : Nat → Prop} {p : Nat}
theorem iclone_none (w : World) (v : Value) (hv : v = .slice none 0 0 ∨ ∃ a c, v = .slice (some a) 0 c) : Calls prog 252 #[v] w fun e w' => (∃ v', e = .returned v' ∧ IntsAt w' (New w) v' []) ∧ Below w.heap.size w w' := by
 rcases hv with rfl | ⟨a, c, rfl⟩
 ·exact (slices_Clone_int_nil 0 0 w).mono fun e w' ⟨he, hw⟩ => by subst hw; exact ⟨⟨_, he, IntsAt.nil _ _⟩, Below.refl _ _⟩
 ·exact (slices_Clone_int_zero a c w).mono fun e w' ⟨v', he, ho, _, hb⟩ => ⟨⟨v', he, ints_of_owns (l := []) ho⟩, hb⟩
theorem form0 {v : Value} (h : IntsAt w F v []) : v = .slice none 0 0 ∨ (∃ a, v = .slice (some a) 0 0) ∨ ∃ g c, v = .slice (some ⟨g, 0, none⟩) 0 c ∧ c ≤ 9223372036854775807 := by
 obtain ⟨h1, base, cap, h2, h3, h4, h5⟩ := h
 rcases h5 with ⟨h5, h6⟩ | ⟨g, cs, h5, -⟩
 ·subst h5
  cases base with
  | none => exact .inl (h6 rfl)
  | some a => exact .inr (.inl ⟨a, h2⟩)
 ·subst h5
  exact .inr (.inr ⟨g, cap, h2, by unfold maxLen at h4; omega⟩)
theorem hback0_any (w : World) {s : Stash} (h : StashAt w F p s) (i : Nat) (hi : i < s.kept.length) (h0 : s.kept.getD i [] = []) : Calls prog 237 #[.pointer (some ⟨p, 0, none⟩), .int .i64 i, .int .i64 0] w fun e w' => e = .returned (.tuple #[]) ∧ StashAt w' (Plus w w' F) p (stashBack s i 0) ∧ Ch F w w' := by
 have hltw := Hd h.ltF;obtain ⟨pp, r, sv, c, h⟩ := h;obtain ⟨c0, c2⟩ := h.cells
 have ck := h.kc hi
 have dI := h.ls i hi
 have n64 := h.n64;unfold stashBack;rw [h0] at dI ⊢
 have hfin : Hid (∀ (w2 : World) (bv : Option Addr) (cv : Nat), IntsAt w2 (New w.drew) (.slice bv 0 cv) [] → Below w.heap.size w w2 → StashAt (w2.setCell ⟨r, i, none⟩ (.slice bv 0 cv)) (Plus w (w2.setCell ⟨r, i, none⟩ (.slice bv 0 cv)) F) p ⟨giveAll s.pool ([].take 0), s.kept.set i ([].drop 0)⟩ ∧ Ch F w (w2.setCell ⟨r, i, none⟩ (.slice bv 0 cv))) := Hd (fun w2 bv cv h5 hb => by
  obtain ⟨h1, base, cap', h2, h3, h4, h5'⟩ := h5
  cases h2
  have h5'' : IntsAt w2 (Plus w w2 (Col F c (10 + i))) (.slice bv 0 cv) [] := by
   refine ⟨h1, bv, cv, rfl, h3, h4, h5'.imp id ?_⟩
   rintro ⟨g', cs, e1, e2, e3, e4, e5⟩
   exact ⟨g', cs, e1, e2, e3, e4, .inr ⟨e5, e2.lt⟩⟩
  have Y := h.set hi h5'' (Ch.of_below hb) (by simp)
  have hs := hb.size
  refine ⟨Y.at.mono (fun b hb' => ?_) (fun b hb' => ?_), ?_⟩
  ·exact hb'.imp (fun e => e) (fun e => ⟨e.1, by rw [World.size_setCell]; exact e.2⟩)
  ·exact hb'.elim (fun e => by have := hltw.out b e; rw [World.size_setCell]; omega) (fun e => e.2)
  ·exact (Ch.of_below hb).setCell (p := ⟨r, i, none⟩) (fun _ => h.fr.1) _)
 have hpr : Hid (∀ w2 : World, Below w.heap.size w w2 → w2.cell? ⟨p, 2, none⟩ = some (.slice (some ⟨r, 0, none⟩) s.kept.length s.kept.length) ∧ w2.cell? ⟨r, i, none⟩ = some (sv i) ∧ w2.frozen? ⟨r, i, none⟩ = false) := Hd (fun w2 hb => ⟨keepcell hb c2, keepcell hb ck, (h.row.ch (Ch.off hb) (fun h => h)).frozen _⟩)
 have D := fun v hv => Hd (iclone_none w.drew v hv)
 generalize s.kept.length = n at *
 rcases form0 dI with e | ⟨a, e⟩ | ⟨g, cap, e, hcap⟩
 ·rw [e] at ck hpr
  have D1 := D (.slice none 0 0) (.inl rfl)
  clear h dI e D h0
  go_enter func237, ntmps237
  go_wp2
  refine wp_loop_rounds 1 ?_
  rw [rounds_succ];go_wp2
  go_region_with (go_at_call 252; refine D1.out.mono ?_; rintro e w2 ⟨⟨v', rfl, h5⟩, hb⟩; obtain ⟨bv, cv, hv'⟩ := RowAt.form h5; simp only [List.length_nil] at hv'; subst hv'; have hb2 := (Below.refl w.heap.size w).drew.trans hb; obtain ⟨e2, ek, ef⟩ := hpr.out w2 hb2)
  all_goals
   have hf := Hd (hfin.out w2 bv cv h5 hb2);clear h5 hb hb2 e2 ek ef;go_wp2;go_end0
   exact ⟨rfl, hf.out⟩
 ·rw [e] at ck hpr
  have D1 := D (.slice (some a) 0 0) (.inr ⟨_, _, rfl⟩)
  clear h dI e D h0
  go_enter func237, ntmps237
  go_wp2
  refine wp_loop_rounds 1 ?_
  rw [rounds_succ];go_wp2
  go_region_with (go_at_call 252; refine D1.out.mono ?_; rintro e w2 ⟨⟨v', rfl, h5⟩, hb⟩; obtain ⟨bv, cv, hv'⟩ := RowAt.form h5; simp only [List.length_nil] at hv'; subst hv'; have hb2 := (Below.refl w.heap.size w).drew.trans hb; obtain ⟨e2, ek, ef⟩ := hpr.out w2 hb2)
  all_goals
   have hf := Hd (hfin.out w2 bv cv h5 hb2);clear h5 hb hb2 e2 ek ef;go_wp2;go_end0
   exact ⟨rfl, hf.out⟩
 ·rw [e] at ck hpr
  have D1 := D (.slice (some ⟨g, 0, none⟩) 0 cap) (.inr ⟨_, _, rfl⟩)
  clear h dI e D h0
  go_enter func237, ntmps237
  go_wp2
  refine wp_loop_rounds 1 ?_
  rw [rounds_succ];go_wp2
  go_region_with (go_at_call 252; refine D1.out.mono ?_; rintro e w2 ⟨⟨v', rfl, h5⟩, hb⟩; obtain ⟨bv, cv, hv'⟩ := RowAt.form h5; simp only [List.length_nil] at hv'; subst hv'; have hb2 := (Below.refl w.heap.size w).drew.trans hb; obtain ⟨e2, ek, ef⟩ := hpr.out w2 hb2)
  all_goals
   have hf := Hd (hfin.out w2 bv cv h5 hb2);clear h5 hb hb2 e2 ek ef;go_wp2;go_end0
   exact ⟨rfl, hf.out⟩
theorem hbackA_any (w : World) {s : Stash} (h : StashAt w F p s) (i : Nat) (hi : i < s.kept.length) (m : Nat) (hm : m ≤ (s.kept.getD i []).length) : Calls prog 237 #[.pointer (some ⟨p, 0, none⟩), .int .i64 i, .int .i64 m] w fun e w' => e = .returned (.tuple #[]) ∧ StashAt w' (Plus w w' F) p (stashBack s i m) ∧ Ch F w w' := by
 by_cases h0 : s.kept.getD i [] = []
 ·have hm0 : m = 0 := by rw [h0] at hm; simpa using hm
  subst hm0
  exact hback0_any w h i hi h0
 ·exact hback_any w h i hi m hm (List.length_pos_iff.2 h0)
theorem stashBack_len (s : Stash) (i m : Nat) : (stashBack s i m).kept.length = s.kept.length := by simp [stashBack]
def stashPut (s : Stash) (i : Nat) (id : Int) : Stash := ⟨s.pool, s.kept.set i (s.kept.getD i [] ++ [id])⟩
def stashGive (s : Stash) (cpu id : Int) : Stash × Int :=
 if mayF s.kept.length cpu ≠ 0 then (s, 3) else if stashHas s id then
  (stashPut (if 4 ≤ (s.kept.getD cpu.toNat []).length then stashBack s cpu.toNat 2 else s) cpu.toNat id, 0) else (s, 4)
theorem hgive_any (w : World) {s : Stash} (h : StashAt w F p s) (cpu id : Int) : Calls prog 159 #[.pointer (some ⟨p, 0, none⟩), .int .i64 cpu, .int .i64 id] w fun e w' => e = .returned (.int .i64 (stashGive s cpu id).2) ∧ StashAt w' (Plus w w' F) p (stashGive s cpu id).1 ∧ Ch F w w' := by
 have HT := Hd h;have A := Hd (hmay_any w h cpu);have B := Hd (hhas_any w h id);have hltw := Hd h.ltF;unfold stashGive
 by_cases hm : mayF s.kept.length cpu = 0
 ·obtain ⟨i, rfl, hi⟩ := may_yes hm
  rw [hm] at A
  rw [if_neg (by simp [hm])]
  simp only [Int.toNat_natCast]
  cases hh : stashHas s id with
  | false =>
   rw [hh] at B;rw [if_neg (by simp)];clear h hm hi hh
   go_enter func159, ntmps159
   go_wp2_with fail;refine A.out.mono ?_;rintro e w1 ⟨rfl, rfl⟩;go_wp2_with fail;refine B.out.mono ?_;rintro e w1 ⟨rfl, hb⟩;replace hb := Hd hb;go_wp2;go_returns
   exact ⟨rfl, (HT.out.below hb.out).mono Plus.sub (Plus.lt hltw.out hb.out.size), Ch.of_below hb.out⟩
  | true =>
   rw [hh] at B;rw [if_pos rfl]
   have hn64 : s.kept.length ≤ 64 := by obtain ⟨pp, r, sv, c, h⟩ := h; exact h.n64
   have hfew : (s.kept.getD i []).length ≤ 4 := by obtain ⟨pp, r, sv, c, h⟩ := h; exact h.few i hi
   by_cases h4 : 4 ≤ (s.kept.getD i []).length
   ·rw [if_pos h4]
    obtain ⟨s1, hs1⟩ : ∃ s1, s1 = stashBack s i 2 := ⟨_, rfl⟩
    rw [← hs1]
    obtain ⟨n, hn⟩ : ∃ n, n = s.kept.length := ⟨_, rfl⟩
    have hin : i < n := by omega
    have hik : Hid (i < s1.kept.length) := Hd (by rw [hs1, stashBack_len]; exact hi)
    have hlk : Hid (s1.kept.length = n) := Hd (by rw [hs1, stashBack_len, hn])
    obtain ⟨q, hq⟩ : ∃ q, q = s1.kept.getD i [] := ⟨_, rfl⟩
    have hlen : Hid ((s1.kept.getD i []).length ≤ 3) := Hd (by
     rw [hs1];unfold stashBack;rw [getD_set_same hi, List.length_drop]
     omega)
    have hR : Hid (stashPut s1 i id = ⟨s1.pool, s1.kept.set i (q ++ [id])⟩) := Hd (by unfold stashPut; rw [hq])
    replace hq := Hd hq;replace hn := Hd hn;replace hi := Hd hi;replace hs1 := Hd hs1
    have hl4 : Hid (4 ≤ (s.kept.getD i []).length ∧ (s.kept.getD i []).length ≤ 4) := Hd ⟨h4, hfew⟩
    clear h hm hh h4 hfew hn64
    go_enter func159, ntmps159
    go_wp2_with fail;refine A.out.mono ?_;rintro e w1 ⟨rfl, rfl⟩;go_wp2_with fail;refine B.out.mono ?_;rintro e w1 ⟨rfl, hb⟩
    have HX := HT.out.below hb
    have C := hbackA_any w1 HX i hi.out 2 (by have := hl4.out; omega)
    rw [← hs1.out] at C;replace C := Hd C;obtain ⟨pp, r, sv, c, X⟩ := HX;obtain ⟨c0, c2⟩ := X.cells
    have ck := X.kc hi.out
    obtain ⟨b0, cp0, hsv⟩ := RowAt.form (X.ls i hi.out)
    rw [hsv, show (s.kept.getD i []).length = 4 by have := hl4.out; omega] at ck
    rw [← hn.out] at c2;have hb' := Hd hb;clear X hsv hb;go_wp2_with fail;refine C.out.mono ?_;rintro e w2 ⟨rfl, h1, h2⟩
    replace h1 := h1.mono (G := Plus w w2 F) (Plus.cover hb'.out.size) (fun b hb => hb.elim (fun e => by have := hltw.out b e; have := hb'.out.size; have := h2.size; omega) (fun e => e.2))
    replace h2 := (Ch.of_below hb'.out).trans h2
    clear c0 c2 ck
    have hq4 : q.length ≤ 3 := by have := hlen.out; rw [hq.out]; exact this
    obtain ⟨pp, r, sv, c, X1⟩ := h1
    have dI := X1.ls i hik.out
    rw [← hq.out] at dI;obtain ⟨d0, d2⟩ := X1.cells
    have dk := X1.kc hik.out
    obtain ⟨b1, cp1, hsv1⟩ := RowAt.form dI
    rw [hsv1] at dk dI;rw [hlk.out] at d2
    have n64 : n ≤ 64 := by have := X1.n64; have := hlk.out; omega
    have hql : q.length ≤ 1099511627776 := by omega
    obtain ⟨Qx, hQx⟩ : ∃ Qx, Qx = q ++ [id] := ⟨_, rfl⟩
    have hQl : Hid (Qx.length ≤ 4) := Hd (by rw [hQx, List.length_append]; simp only [List.length_cons, List.length_nil]; omega)
    rw [← hQx] at hR;replace hQx := Hd hQx
    have dI2 := IntsAt.ch dI (((Ch.refl (fun _ => False) w2).alloc (.cells #[.int .i64 id] 3)).drew) (fun _ _ h => h)
    have X3 := X1.ch (((Ch.refl (fun _ => False) w2).alloc (.cells #[.int .i64 id] 3)).drew) (fun _ _ h => h)
    obtain ⟨e0, e2⟩ := X3.cells
    have ek := X3.kc hik.out
    rw [hsv1] at ek
    try dsimp only at e2
    rw [hlk.out] at e2
    have e2' : (w2.alloc (.cells #[.int .i64 id] 3)).cell? ⟨p, 2, none⟩ = some (.slice (some ⟨r, 0, none⟩) n n) := e2
    have ek' : (w2.alloc (.cells #[.int .i64 id] 3)).cell? ⟨r, i, none⟩ = some (.slice b1 q.length cp1) := ek
    replace dI2 := Hd dI2;replace X3 := Hd X3;replace h2 := Hd h2;clear dI hsv1 X1 hq4;go_wp2
    go_region_law (refine step_app1 rfl _ _ rfl dI2.out rfl rfl (cell_at1 _ _ rfl) hql ?_; intro v' w3 h5 h6; rw [← hQx.out] at h5; have g2 := keepch h6 e2 (Col.apart (by omega) _ X3.out.fp); have gk := keepch h6 ek (Col.apart (by omega) _ X3.out.fr); obtain ⟨bv, cv, hv'⟩ := RowAt.form h5; subst hv'; have gf := (X3.out.row.ch h6 (Col.apart (by omega) _ X3.out.fr)).frozen i)
    all_goals
     have Y := X3.out.set hik.out h5 h6 hQl.out
     have hs6 := h6.size
     simp only [World.size_drew, World.size_alloc] at hs6
     have hcw := h2.out.size
     have Z := Y.at.mono (G := Plus w (w3.setCell ⟨r, i, none⟩ (.slice bv Qx.length cv)) F) (fun b hb => (hb.elim (fun e => e.elim .inl (fun e => .inr ⟨e.1, by have := e.2; have := hs6; show b < (w3.setCell _ _).heap.size; rw [World.size_setCell]; omega⟩)) (fun e => .inr ⟨by have h7 : (w2.alloc (.cells #[.int .i64 id] 3)).drew.heap.size ≤ b := e.1; rw [World.size_drew, World.size_alloc] at h7; omega, by show b < (w3.setCell _ _).heap.size; rw [World.size_setCell]; exact e.2⟩) : Plus w (w3.setCell ⟨r, i, none⟩ (.slice bv Qx.length cv)) F b)) (fun b hb => hb.elim (fun e => by have := hltw.out b e; rw [World.size_setCell]; omega) (fun e => e.2))
     have HC2 := (((h2.out).alloc (.cells #[.int .i64 id] 3)).drew.then h6 (fun b hb e => (e.1.elim (fun e => e) (fun e => by have := e.1; omega) : F b))).setCell (p := ⟨r, i, none⟩) (fun hb => (X3.out.fr.1.elim (fun e => e) (fun e => by have := e.1; have hb' : r < w.heap.size := hb; omega) : F r)) (.slice bv Qx.length cv)
     replace Z := Hd Z;replace HC2 := Hd HC2;clear Y h5 h6 hs6 g2 gk gf;go_wp2;go_returns
     exact ⟨rfl, by rw [hR.out]; exact Z.out, HC2.out⟩
   ·rw [if_neg h4]
    obtain ⟨n, hn⟩ : ∃ n, n = s.kept.length := ⟨_, rfl⟩
    have hin : i < n := by omega
    have hik : Hid (i < s.kept.length) := Hd hi
    have hlk : Hid (s.kept.length = n) := Hd hn.symm
    obtain ⟨q, hq⟩ : ∃ q, q = s.kept.getD i [] := ⟨_, rfl⟩
    have hlen : Hid ((s.kept.getD i []).length ≤ 3) := Hd (by omega)
    have hR : Hid (stashPut s i id = ⟨s.pool, s.kept.set i (q ++ [id])⟩) := Hd (by unfold stashPut; rw [hq])
    have hql3 : Hid (q.length ≤ 3) := Hd (by rw [hq]; omega)
    replace hq := Hd hq;replace hn := Hd hn;clear h hm hh h4 hfew hn64 hi
    go_enter func159, ntmps159
    go_wp2_with fail;refine A.out.mono ?_;rintro e w1 ⟨rfl, rfl⟩;go_wp2_with fail;refine B.out.mono ?_;rintro e w2 ⟨rfl, hb⟩
    have h1 := (HT.out.below hb).mono (G := Plus w w2 F) Plus.sub (Plus.lt hltw.out hb.size)
    have h2 : Ch F w w2 := Ch.of_below hb
    clear hb
    have hq4 : q.length ≤ 3 := by have := hlen.out; rw [hq.out]; exact this
    obtain ⟨pp, r, sv, c, X1⟩ := h1
    have dI := X1.ls i hik.out
    rw [← hq.out] at dI;obtain ⟨d0, d2⟩ := X1.cells
    have dk := X1.kc hik.out
    obtain ⟨b1, cp1, hsv1⟩ := RowAt.form dI
    rw [hsv1] at dk dI;rw [hlk.out] at d2
    have n64 : n ≤ 64 := by have := X1.n64; have := hlk.out; omega
    have hql : q.length ≤ 1099511627776 := by omega
    obtain ⟨Qx, hQx⟩ : ∃ Qx, Qx = q ++ [id] := ⟨_, rfl⟩
    have hQl : Hid (Qx.length ≤ 4) := Hd (by rw [hQx, List.length_append]; simp only [List.length_cons, List.length_nil]; omega)
    rw [← hQx] at hR;replace hQx := Hd hQx
    have dI2 := IntsAt.ch dI (((Ch.refl (fun _ => False) w2).alloc (.cells #[.int .i64 id] 3)).drew) (fun _ _ h => h)
    have X3 := X1.ch (((Ch.refl (fun _ => False) w2).alloc (.cells #[.int .i64 id] 3)).drew) (fun _ _ h => h)
    obtain ⟨e0, e2⟩ := X3.cells
    have ek := X3.kc hik.out
    rw [hsv1] at ek
    try dsimp only at e2
    rw [hlk.out] at e2
    have e2' : (w2.alloc (.cells #[.int .i64 id] 3)).cell? ⟨p, 2, none⟩ = some (.slice (some ⟨r, 0, none⟩) n n) := e2
    have ek' : (w2.alloc (.cells #[.int .i64 id] 3)).cell? ⟨r, i, none⟩ = some (.slice b1 q.length cp1) := ek
    replace dI2 := Hd dI2;replace X3 := Hd X3;replace h2 := Hd h2;clear dI hsv1 X1;go_wp2
    go_region_law (refine step_app1 rfl _ _ rfl dI2.out rfl rfl (cell_at1 _ _ rfl) hql ?_; intro v' w3 h5 h6; rw [← hQx.out] at h5; have g2 := keepch h6 e2 (Col.apart (by omega) _ X3.out.fp); have gk := keepch h6 ek (Col.apart (by omega) _ X3.out.fr); obtain ⟨bv, cv, hv'⟩ := RowAt.form h5; subst hv'; have gf := (X3.out.row.ch h6 (Col.apart (by omega) _ X3.out.fr)).frozen i)
    all_goals
     have Y := X3.out.set hik.out h5 h6 hQl.out
     have hs6 := h6.size
     simp only [World.size_drew, World.size_alloc] at hs6
     have hcw := h2.out.size
     have Z := Y.at.mono (G := Plus w (w3.setCell ⟨r, i, none⟩ (.slice bv Qx.length cv)) F) (fun b hb => (hb.elim (fun e => e.elim .inl (fun e => .inr ⟨e.1, by have := e.2; have := hs6; show b < (w3.setCell _ _).heap.size; rw [World.size_setCell]; omega⟩)) (fun e => .inr ⟨by have h7 : (w2.alloc (.cells #[.int .i64 id] 3)).drew.heap.size ≤ b := e.1; rw [World.size_drew, World.size_alloc] at h7; omega, by show b < (w3.setCell _ _).heap.size; rw [World.size_setCell]; exact e.2⟩) : Plus w (w3.setCell ⟨r, i, none⟩ (.slice bv Qx.length cv)) F b)) (fun b hb => hb.elim (fun e => by have := hltw.out b e; rw [World.size_setCell]; omega) (fun e => e.2))
     have HC2 := (((h2.out).alloc (.cells #[.int .i64 id] 3)).drew.then h6 (fun b hb e => (e.1.elim (fun e => e) (fun e => by have := e.1; omega) : F b))).setCell (p := ⟨r, i, none⟩) (fun hb => (X3.out.fr.1.elim (fun e => e) (fun e => by have := e.1; have hb' : r < w.heap.size := hb; omega) : F r)) (.slice bv Qx.length cv)
     replace Z := Hd Z;replace HC2 := Hd HC2;clear Y h5 h6 hs6 g2 gk gf;go_wp2;go_returns
     exact ⟨rfl, by rw [hR.out]; exact Z.out, HC2.out⟩
 ·have e := may_no hm
  rw [if_pos hm];rw [e] at A;clear h hm e
  go_enter func159, ntmps159
  go_wp2_with fail;refine A.out.mono ?_;rintro e w1 ⟨rfl, rfl⟩;go_wp2;go_returns
  exact ⟨rfl, by rw [Plus.self]; exact HT.out, Ch.refl _ _⟩
def stashDrain (s : Stash) (cpu : Int) : Stash × Int × Int := if mayF s.kept.length cpu ≠ 0 then (s, 0, 3) else (stashBack s cpu.toNat (s.kept.getD cpu.toNat []).length, ((s.kept.getD cpu.toNat []).length : Nat), 0)
theorem hdrain_any (w : World) {s : Stash} (h : StashAt w F p s) (cpu : Int) : Calls prog 312 #[.pointer (some ⟨p, 0, none⟩), .int .i64 cpu] w fun e w' => e = .returned (.tuple #[.int .i64 (stashDrain s cpu).2.1, .int .i64 (stashDrain s cpu).2.2]) ∧ StashAt w' (Plus w w' F) p (stashDrain s cpu).1 ∧ Ch F w w' := by
 have HT := Hd h;have A := Hd (hmay_any w h cpu);unfold stashDrain
 by_cases hm : mayF s.kept.length cpu = 0
 ·obtain ⟨i, rfl, hi⟩ := may_yes hm
  rw [hm] at A
  rw [if_neg (by simp [hm])]
  simp only [Int.toNat_natCast]
  have C := Hd (hbackA_any w h i hi _ (Nat.le_refl _))
  obtain ⟨pp, r, sv, c, X⟩ := h;obtain ⟨c0, c2⟩ := X.cells
  have ck := X.kc hi
  have n64 := X.n64
  obtain ⟨b0, cp0, hsv⟩ := RowAt.form (X.ls i hi)
  rw [hsv] at ck
  obtain ⟨S, hS⟩ : ∃ S, S = stashBack s i (s.kept.getD i []).length := ⟨_, rfl⟩
  rw [← hS] at C ⊢;generalize (s.kept.getD i []).length = m at *;generalize s.kept.length = n at *;clear X hsv hm hS
  go_enter func312, ntmps312
  go_wp2_with fail;refine A.out.mono ?_;rintro e w1 ⟨rfl, rfl⟩;go_wp2_with fail;refine C.out.mono ?_;rintro e w2 ⟨rfl, h1⟩;replace h1 := Hd h1;go_wp2;go_returns
  exact ⟨rfl, h1.out⟩
 ·have e := may_no hm
  rw [if_pos hm];rw [e] at A;clear h hm e
  go_enter func312, ntmps312
  go_wp2_with fail;refine A.out.mono ?_;rintro e w1 ⟨rfl, rfl⟩;go_wp2;go_returns
  exact ⟨rfl, by rw [Plus.self]; exact HT.out, Ch.refl _ _⟩
theorem sliceZero : (prog.info? 65).map (fun i => (i.zero, i.size, i.bytes)) = some (some (.slice none 0 0), 1, 24) := by kernel_rfl
def stash0 (cpus : Nat) : Stash := ⟨List.replicate 12 0, List.replicate cpus []⟩
theorem hnew_any (w : World) (cpus : Nat) (h1 : 1 ≤ cpus) (h64 : cpus ≤ 64) : Calls prog 64 #[.int .i64 cpus, .int .i64 12] w fun e w' => (∃ p, e = .returned (.tuple #[.pointer (some ⟨p, 0, none⟩), .int .i64 0]) ∧ StashAt w' (Plus w w' (fun _ => False)) p (stash0 cpus)) ∧ Below w.heap.size w w' := by
 have hmk := fun W => make_any sliceZero underlying229 (by omega) cpus (by omega) W
 have A := Hd (pool_new w)
 go_enter func64, ntmps64
 go_wp2_with fail;refine A.out.mono ?_;rintro e w1 ⟨⟨pp, rfl, hp⟩, hb⟩;replace hp := Hd hp;replace hb := Hd hb;go_wp2;go_returns;have hs := hb.out.size;have hpl := hp.out.head.lt
 have hmc : madeCells #[Value.slice none 0 0] cpus = ((List.range cpus).map (fun _ => Value.slice none 0 0)).toArray := by
  apply Array.ext_getElem?
  intro k
  by_cases hk : k < cpus
  ·simp [madeCells, hk, Value.cells, Nat.mod_one]
  ·rw [Array.getElem?_eq_none (by simp [madeCells]; omega), Array.getElem?_eq_none (by simp; omega)]
 refine ⟨⟨w1.heap.size + 1, rfl, pp, w1.heap.size, fun _ => .slice none 0 0, fun b => if b = w1.heap.size then 1 else if b = w1.heap.size + 1 then 3 else 0, ?_⟩, (hb.out.alloc hs _).alloc (by simp; omega) _⟩
 have hc2 : ∀ o1 o2, Ch (fun _ => False) w1 ((w1.alloc o1).alloc o2) := fun o1 o2 => ((Ch.refl _ _).alloc _).alloc _
 refine ⟨?_, (hp.out.ch (hc2 _ _) (fun _ _ h => h)).mono (fun b hb' => ?_), ?_, ⟨.inr ⟨hs, by simp; omega⟩, by simp⟩, ⟨.inr ⟨by omega, by simp⟩, by simp⟩, plus0_lt, fun i hi => ?_, by simpa [stash0] using h1, by simpa [stash0] using h64, fun i hi => ?_⟩
 ·have e : (stash0 cpus).kept.length = cpus := by simp [stash0]
  rw [e]
  exact Blk.at _ _ (by simp)
 ·have := plus0_lt b hb'
  refine ⟨.inr ⟨hb'.elim (fun e => e.elim) (fun e => e.1), by simp; omega⟩, ?_⟩
  have h1 : b ≠ w1.heap.size := by omega
  have h2 : b ≠ w1.heap.size + 1 := by omega
  simp [h1, h2]
 ·have e : (stash0 cpus).kept.length = cpus := by simp [stash0]
  rw [e, ← hmc]
  exact (Blk.new _ _ _).alloc _
 ·have e : (stash0 cpus).kept.getD i [] = [] := by
   show (List.replicate cpus ([] : List Int)).getD i [] = []
   rw [List.getD_eq_getElem?_getD, List.getElem?_replicate]
   split <;> rfl
  rw [e]
  exact IntsAt.nil _ _
 ·have e : (stash0 cpus).kept.getD i [] = [] := by
   show (List.replicate cpus ([] : List Int)).getD i [] = []
   rw [List.getD_eq_getElem?_getD, List.getElem?_replicate]
   split <;> rfl
  rw [e]
  simp
def irqTo (t : Irqs) (k : Nat) : List Int := ((List.range k).filter (fun n => (t.all.getD n noIrq).wanted)).map fun (n : Nat) => (n : Int)
def irqList (t : Irqs) : List Int := irqTo t 16
theorem irqTo_yes {t : Irqs} {k : Nat} (h : (t.all.getD k noIrq).wanted = true) : irqTo t (k + 1) = irqTo t k ++ [(k : Int)] := by
 unfold irqTo;rw [List.range_succ, List.filter_append, List.map_append]
 congr 1
 simp only [List.filter_cons, List.filter_nil, h, if_true, List.map_cons, List.map_nil]
theorem irqTo_no {t : Irqs} {k : Nat} (h : (t.all.getD k noIrq).wanted = false) : irqTo t (k + 1) = irqTo t k := by
 unfold irqTo;rw [List.range_succ, List.filter_append, List.map_append]
 simp only [List.filter_cons, List.filter_nil, h, Bool.false_eq_true, if_false, List.map_nil, List.append_nil]
theorem irqTo_len (t : Irqs) (k : Nat) : (irqTo t k).length ≤ k := by
 unfold irqTo;rw [List.length_map]
 exact Nat.le_trans (List.length_filter_le _ _) (by simp)
theorem ilist_any (w : World) {t : Irqs} (h : IrqsAt w F p t) : Calls prog 314 #[.pointer (some ⟨p, 0, none⟩)] w fun e w' => (∃ v, e = .returned v ∧ IntsAt w' (New w) v (irqList t)) ∧ Below w.heap.size w w' := by
 obtain ⟨A, hA⟩ : ∃ A, A = (t.all.flatMap irqL).toArray := ⟨_, rfl⟩
 have hlen : (t.all.flatMap irqL).length = 64 := by rw [flat_len irqL_len, h.len]
 have hl : (loadVar 216 ⟨p, 0, none⟩).run prog w = .ok (.agg A) w := by
  rw [hA]
  refine run_loadAgg (fun w => isAgg216 w) (fun w => by rw [hlen]; exact sizeOf216 w) w (fun j v hj => ?_)
  have hj2 : j < 64 := by have := (List.getElem?_eq_some_iff.1 hj).1; rwa [hlen] at this
  rw [Nat.zero_add, h.head.cell, List.getElem?_toArray, List.getElem?_append_left (by rw [hlen]; exact hj2)]
  exact hj
 have hix : Hid (∀ (k : Nat) W, k < 16 → (Instr.index 216 (.agg A) (.int .i64 k)).run prog W = .ok (.agg #[.bool (t.all.getD k noIrq).wanted, .bool (t.all.getD k noIrq).masked, .bool (t.all.getD k noIrq).pending, .int .u64 (t.all.getD k noIrq).mask]) W) := Hd (fun k W hk => by
  rw [run_idx underlying216 hk (fun w => isAgg187 w) (fun w => sizeOf187 w) W, hA]
  congr 2
  apply Array.ext_getElem?
  intro i
  by_cases hi : i < 4
  ·have e1 : ((t.all.flatMap irqL).toArray.extract (k * 4) (k * 4 + 4))[i]? = (irqL (t.all.getD k noIrq))[i]? := by
    rw [Array.getElem?_extract, if_pos (by rw [List.size_toArray, hlen]; omega), List.getElem?_toArray, flat_get irqL_len t.all k i _ (h.get hk) hi]
   rw [e1]
   rcases (by omega : i = 0 ∨ i = 1 ∨ i = 2 ∨ i = 3) with rfl | rfl | rfl | rfl <;> rfl
  ·rw [Array.getElem?_eq_none (by rw [Array.size_extract, List.size_toArray, hlen]; omega), Array.getElem?_eq_none (by simp; omega)])
 replace hA := Hd hA;clear h hlen
 go_enter func314, ntmps314
 go_wp2_with (refine wpList_loadAgg rfl 216 (.tmp 10) rfl hl rfl ?_)
 go_loopw [12, 4, 5, 3] (fun iv _ _ lv wr => ∃ k : Nat, iv = .int .i64 k ∧ k ≤ 16 ∧ Hid (IntsAt wr (New w) lv (irqTo t k)) ∧ Hid (Below w.heap.size w wr)) (fun iv _ _ _ _ => 16 - (intOf iv).toNat)
 case atStart => exact ⟨0, rfl, Nat.zero_le _, Hd (show IntsAt w (New w) _ [] from IntsAt.nil _ _), Hd (Below.refl _ _)⟩
 case round =>
  clear hl;obtain ⟨k, rfl, hk, HL, HB⟩ := hrel;have hz := HB.out.size
  by_cases hlt : k < 16
  ·have ix := fun W => hix.out k W hlt
   have hle : (irqTo t k).length ≤ 1099511627776 := by have := irqTo_len t k; omega
   generalize hx : t.all.getD k noIrq = x at *
   have hxw : Hid (x.wanted = (t.all.getD k noIrq).wanted) := Hd (by rw [hx])
   clear hx;obtain ⟨x0, x1, x2, x3⟩ := x;dsimp only at ix hxw
   cases x0 with
   | false =>
    have HH := Hd (irqTo_no (t := t) (k := k) hxw.out.symm)
    go_wp2;go_roundw
    case rel => exact ⟨k + 1, by go_num, hlt, Hd (by rw [HH.out]; exact HL.out.ch (by exact (by (repeat (first | with_reducible exact Ch.refl _ _ | (with_reducible refine Ch.alloc ?_ _) | (with_reducible refine Ch.drew ?_) | (with_reducible refine Ch.drewN ?_ _) | (refine Ch.setCell ?_ (fun h => absurd h (by simp)) _))))) (fun _ _ h => h)), Hd (HB.out.trans (Below.mono (Ch.isBelow (by exact (by (repeat (first | with_reducible exact Ch.refl _ _ | (with_reducible refine Ch.alloc ?_ _) | (with_reducible refine Ch.drew ?_) | (with_reducible refine Ch.drewN ?_ _) | (refine Ch.setCell ?_ (fun h => absurd h (by simp)) _)))))) hz))⟩
    case measure => simp [intOf]; omega
   | true =>
    have HH := Hd (irqTo_yes (t := t) (k := k) hxw.out.symm)
    go_wp2_with (at_builtin; refine wpList_app1 (n := (k : Int)) rfl _ _ rfl (IntsAt.same HL.out ?_) (by rfl) (by rfl) ?_ hle ?_)
    ·exact (by (repeat (first | with_reducible exact Ch.refl _ _ | (with_reducible refine Ch.alloc ?_ _) | (with_reducible refine Ch.drew ?_) | (with_reducible refine Ch.drewN ?_ _) | (refine Ch.setCell ?_ (fun h => absurd h (by simp)) _))))
    ·exact cell_at1 _ _ (by simp)
    ·intro v' w1 h1 hc1
     replace h1 := Hd (h1.mono (New.plus (w := w) (by simp; omega)))
     replace hc1 := Hd (New.below HB.out ((show Ch (New w) wr _ from (by (repeat (first | with_reducible exact Ch.refl _ _ | (with_reducible refine Ch.alloc ?_ _) | (with_reducible refine Ch.drew ?_) | (with_reducible refine Ch.drewN ?_ _) | (refine Ch.setCell ?_ (fun h => absurd h (by simp)) _))))).trans hc1))
     clear HL HB;go_wp2;go_roundw
     case rel => exact ⟨k + 1, by go_num, hlt, Hd (by rw [HH.out]; exact h1.out), hc1⟩
     case measure => simp [intOf]; omega
  ·have : k = 16 := by omega
   subst this;go_wp2;go_returns
   exact ⟨⟨_, rfl, HL.out⟩, HB.out⟩
def irqs0 (cpus : Nat) : Irqs := ⟨List.replicate 16 noIrq, uptoF cpus⟩
theorem inew_any (w : World) (cpus : Nat) (h1 : 1 ≤ cpus) (h64 : cpus ≤ 64) : Calls prog 56 #[.int .i64 cpus] w fun e w' => (∃ p, e = .returned (.tuple #[.pointer (some ⟨p, 0, none⟩), .int .i64 0]) ∧ IrqsAt w' (Plus w w' (fun _ => False)) p (irqs0 cpus)) ∧ Below w.heap.size w w' := by
 have A := Hd (upto_any cpus w)
 have hu := Hd (uptoF_lt (cpus : Int))
 unfold irqs0;generalize uptoF (cpus : Int) = m at *
 go_enter func56, ntmps56
 go_wp2_with fail;refine A.out.mono ?_;rintro e w1 ⟨rfl, rfl⟩;go_wp2;go_returns
 refine ⟨⟨w.heap.size, rfl, Blk.at _ _ rfl, .inr ⟨Nat.le_refl _, by simp⟩, by simp, hu.out, fun x hx => ?_⟩, (Below.refl _ _).alloc (Nat.le_refl _) _⟩
 have := List.eq_of_mem_replicate hx
 subst this
 decide
end Go.Proofs.YtiocbpabbjgkhaaGreatDoor
