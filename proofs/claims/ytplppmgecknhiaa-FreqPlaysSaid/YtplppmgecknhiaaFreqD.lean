/- What a slice of acts holds, and the walk of FreqEnds. Condition: the row's own bounds on a slice that came in. -/
import Derived.Test.YtplppmgecknhiaaFreqC
import Derived.StillTailTactics
import Derived.Deep.RegionWith
import Derived.Deep.RegionHeld3
import Derived.Deep.DeepCutAuto
import Derived.Deep.CutBlock
import Derived.Deep.LoopGhost
import Derived.LoopN
namespace Go.Proofs.Ytplppmgecknhiaa.FreqD
open Go.RowKit Go.Proofs.Ytplppmgecknhiaa.Open Go.Proofs.Ytplppmgecknhiaa.NumD Go.Proofs.Ytplppmgecknhiaa.NumE Go.Proofs.Ytplppmgecknhiaa.Frame Go.Proofs.Ytplppmgecknhiaa.FreqA Go.Proofs.Ytplppmgecknhiaa.FreqB
set_option linter.unusedVariables false
set_option linter.unusedSimpArgs false
def ks : List FK := [.bool, .int .i64, .int .i64]
/-- The acts' cells, at a place that is written out. -/
theorem acts_at {W : World} {a : Option Addr} {len : Nat} {V : Nat → Nat → Value} (h : StructRow W a len ks V) (hp : 0 < len) : ∃ b off, a = some ⟨b, off, none⟩ ∧ b < W.heap.size ∧ ∀ i, i < len →
    W.cell? ⟨b, off + i * 3, none⟩ = some (.bool (boolOf (V i 0))) ∧ W.cell? ⟨b, off + i * 3 + 1, none⟩ = some (.int .i64 (numOf (V i 1))) ∧ W.cell? ⟨b, off + i * 3 + 2, none⟩ = some (.int .i64 (numOf (V i 2))) := by
  obtain ⟨⟨b, off, sp⟩, rfl⟩ := h.1 hp
  have hsp : sp = none := by
    have h0 := (h.2 0 hp _ rfl 0 _ rfl).1
    cases sp with
    | none => rfl
    | some q => simp [World.cell?, Addr.add] at h0; split at h0 <;> simp at h0
  subst hsp
  refine ⟨b, off, rfl, ?_, fun i hi => ?_⟩
  · have := World.block_lt_of_cell? W _ (h.2 0 hp _ rfl 0 _ rfl).1
    simpa [Addr.add] using this
  · have hr := h.2 i hi _ rfl
    have e : ks.length = 3 := rfl
    rw [e] at hr
    have g : ∀ j, (Addr.add ⟨b, off, none⟩ (i * 3 + j)) = ⟨b, off + i * 3 + j, none⟩ := fun j => by
      unfold Addr.add
      split
      · have : i * 3 + j = 0 := by assumption
        simp only [Addr.mk.injEq, true_and, and_true]
        omega
      · simp only [Addr.mk.injEq, true_and, and_true]
        omega
    refine ⟨?_, ?_, ?_⟩
    · rw [show (⟨b, off + i * 3, none⟩ : Addr) = ⟨b, off + i * 3 + 0, none⟩ from rfl, ← g 0]; exact (hr 0 _ rfl).1
    · rw [← g 1]; exact (hr 1 _ rfl).1
    · rw [← g 2]; exact (hr 2 _ rfl).1
theorem good_dec (b a : Int) : good b a ∨ ¬ good b a := Classical.em _
/-- Feed, whatever is fed. -/
theorem feed_any (w : World) (g : Nat) (lo hi : Int) (f : FS) (i : Nat) (h : Gov w g lo hi f i) (ok : f.ok) (rt : rightB lo hi = true) (h4 : i < 4) (b a : Int) :
    Calls Try.prog 32 #[.pointer (some ⟨g, 0, none⟩), .int .i64 b, .int .i64 a] w fun e w' => (∃ r c, e = .returned (.tuple #[.int .i64 r, .int .i64 c])) ∧ ∃ f' i', Gov w' g lo hi f' i' ∧ f'.ok ∧ i' < 4 ∧ Ch (· = g) w w' := by
  rcases good_dec b a with gd | gd
  · exact (feed_ok w g lo hi f i h ok rt h4 b a gd).mono fun e w' k => ⟨⟨_, _, k.1⟩, _, _, k.2.1, FS.put_ok ok i gd, Nat.mod_lt _ (by omega), k.2.2⟩
  · exact (feed_bad w g b a gd).mono fun e w' k => ⟨⟨_, _, k.1⟩, f, i, k.2 ▸ h, ok, h4, k.2 ▸ Ch.refl _ _⟩
theorem put4 (f : FS) (i : Nat) (h4 : i < 4) (b a : Int) : (((f.put i b a).put ((i + 1) % 4) b a).put (((i + 1) % 4 + 1) % 4) b a).put ((((i + 1) % 4 + 1) % 4 + 1) % 4) b a = ⟨b, a, b, a, b, a, b, a⟩ := by
  have hcase : i = 0 ∨ i = 1 ∨ i = 2 ∨ i = 3 := by omega
  rcases hcase with rfl | rfl | rfl | rfl <;> rfl
theorem four_zero (a : Int) (h : 1 ≤ a) : scaleF 100 900 (busyF ⟨0, a, 0, a, 0, a, 0, a⟩) = 100 := by
  have e : busyF ⟨0, a, 0, a, 0, a, 0, a⟩ = 0 := by unfold busyF FS.busy percentF; rw [if_pos (by simp)]
  rw [e]
  decide
theorem four_all (a : Int) (h : 1 ≤ a) : scaleF 100 900 (busyF ⟨a, a, a, a, a, a, a, a⟩) = 900 := by
  have e : busyF ⟨a, a, a, a, a, a, a, a⟩ = 100 := by
    unfold busyF FS.busy FS.all percentF
    simp only []
    rw [if_neg (by omega), if_pos (by omega)]
  rw [e]
  decide
theorem feed_in (W w : World) (f : FS) (i : Nat) (h : Gov w W.heap.size 100 900 f i) (hb : Below W.heap.size W w) (ok : f.ok) (h4 : i < 4) (b a : Int) (gd : good b a) :
    Calls Try.prog 32 #[.pointer (some ⟨W.heap.size, 0, none⟩), .int .i64 b, .int .i64 a] w fun e w' => (∃ r, e = .returned (.tuple #[.int .i64 r, .int .i64 0])) ∧ Gov w' W.heap.size 100 900 (f.put i b a) ((i + 1) % 4) ∧ Below W.heap.size W w' ∧ (f.put i b a).ok :=
  (feed_ok w _ 100 900 f i h ok rfl h4 b a gd).mono fun e w' k => ⟨⟨_, k.1⟩, k.2.1, ((Ch.of_below hb).then k.2.2 (F := (· = W.heap.size)) (fun _ _ e => e)).below (Nat.le_refl _) (by intro k hk e; omega), FS.put_ok ok i gd⟩
set_option maxRecDepth 100000 in
set_option maxHeartbeats 4000000 in
theorem ends_walk (W : World) (a : Option Addr) (len cap : Nat) (V : Nat → Nat → Value) (hrow : StructRow W a len ks V) (hcap : len ≤ cap) (hl : len * 24 ≤ 140737488351232) (s : Int) (ws : (Lit.int .i64 s).wf = true) :
    Calls Try.prog 7 #[.slice a len cap, .int .i64 s] W fun e W' => e = .returned (.bool true) ∧ Below W.heap.size W W' := by
  have HR := Lib.hid hrow
  clear hrow ws
  have hcase : s < 1 ∨ (1 ≤ s ∧ 1099511627776 < s) ∨ (1 ≤ s ∧ s ≤ 1099511627776) := by omega
  rcases hcase with hs | ⟨hs, hs2⟩ | ⟨hs, hs2⟩
  · go_enter Try.func7, Try.ntmps7
    go_wp2_with fail
    refine (new_ok W 100 900 rfl).mono ?_
    rintro e w1 ⟨rfl, h1, b1⟩
    clear h1
    go_wp2_with fail
    refine (FreqC.known_ok w1).mono ?_
    rintro e w2 ⟨rfl, b2⟩
    go_wp2
    go_returns
    exact ⟨rfl, b1.trans (b2.mono b1.size)⟩
  · go_enter Try.func7, Try.ntmps7
    go_wp2_with fail
    refine (new_ok W 100 900 rfl).mono ?_
    rintro e w1 ⟨rfl, h1, b1⟩
    clear h1
    go_wp2_with fail
    refine (FreqC.known_ok w1).mono ?_
    rintro e w2 ⟨rfl, b2⟩
    go_wp2
    go_returns
    exact ⟨rfl, b1.trans (b2.mono b1.size)⟩
  · have gz : good 0 s := ⟨by omega, by omega, by omega⟩
    have gs : good s s := ⟨by omega, by omega, by omega⟩
    go_enter Try.func7, Try.ntmps7
    go_wp2_with fail
    refine (new_ok W 100 900 rfl).mono ?_
    rintro e w1 ⟨rfl, h1, b1⟩
    have H1 := Lib.hid h1
    have B1 := Lib.hid b1
    clear h1 b1
    go_wp2_with fail
    go_loopg [7] len (fun g v wr => ∃ (k : Nat) (f : FS) (i : Nat), k ≤ len ∧ Hid (g + k = len) ∧ v = .int .i64 k ∧ Gov wr W.heap.size 100 900 f i ∧ f.ok ∧ i < 4 ∧ Below W.heap.size W wr)
    case atStart => exact ⟨0, _, 0, Nat.zero_le _, Lib.hid rfl, rfl, H1.out, zero_ok, by omega, B1.out⟩
    case round =>
      obtain ⟨k, f, i, hk, Hg, rfl, hG, hok, hi4, hB⟩ := hrel
      have HG := Lib.hid hG
      have HB := Lib.hid hB
      have OK := Lib.hid hok
      clear hG hB hok H1 B1
      by_cases hlt : k < len ∧ k < 50
      · obtain ⟨hlt, h50⟩ := hlt
        obtain ⟨b, off, rfl, hb, hacts⟩ := acts_at HR.out (by omega)
        obtain ⟨e0, e1, e2⟩ := hacts k hlt
        clear hacts
        generalize boolOf (V k 0) = T at *
        generalize numOf (V k 1) = A at *
        generalize numOf (V k 2) = C at *
        replace e1 := (HB.out.cell hb).trans e1
        replace e2 := (HB.out.cell hb).trans e2
        clear e0
        have hbz := Nat.lt_of_lt_of_le hb HB.out.size
        have d50 : decide ((k : Int) < 50) = true := by simp; omega
        go_wp2_with fail
        go_still_tail 11, (by kernel_rfl)
        change wpList _ _ _ _ _ wr.drew
        go_wp2_with fail
        refine (feed_any _ _ 100 900 f i (HG.out.below (below_drewN (Below.refl _ _) 1)) OK.out rfl hi4 A C).mono ?_
        rintro e w2 ⟨⟨r, c, rfl⟩, f2, i2, h2, ok2, i24, c2⟩
        go_wp2_with fail
        go_roundg (len - (k + 1))
        case measure => have := Hg.out; omega
        case rel => exact ⟨k + 1, f2, i2, by omega, Lib.hid (by omega), rfl, h2, ok2, i24, ((Ch.of_below HB.out).drew.then c2 (F := (· = W.heap.size)) (fun _ _ e => e)).below (Nat.le_refl _) (by intro k hk e; omega)⟩
      · clear HR
        have hout : k = len ∨ (k < len ∧ decide ((k : Int) < 50) = false) := by
          by_cases h : k < len
          · exact .inr ⟨h, by simp; omega⟩
          · exact .inl (by omega)
        rcases hout with rfl | ⟨hlt2, d50⟩
        all_goals
          go_wp2_with fail
          refine wp_loop_rounds 5 ?_
          rw [rounds_succ]
          go_wp2_with fail
          refine (feed_in W _ _ _ HG.out HB.out OK.out hi4 0 s gz).mono ?_
          rintro e wa0 ⟨⟨ra0, rfl⟩, ga0, ba0, oa0⟩
          have Ga0 := Lib.hid ga0
          have Ba0 := Lib.hid ba0
          have Oa0 := Lib.hid oa0
          clear ga0 ba0 oa0
          go_wp2_with fail
          rw [rounds_succ]
          go_wp2_with fail
          refine (feed_in W _ _ _ Ga0.out Ba0.out Oa0.out (Nat.mod_lt _ (by omega)) 0 s gz).mono ?_
          rintro e wa1 ⟨⟨ra1, rfl⟩, ga1, ba1, oa1⟩
          have Ga1 := Lib.hid ga1
          have Ba1 := Lib.hid ba1
          have Oa1 := Lib.hid oa1
          clear ga1 ba1 oa1
          go_wp2_with fail
          rw [rounds_succ]
          go_wp2_with fail
          refine (feed_in W _ _ _ Ga1.out Ba1.out Oa1.out (Nat.mod_lt _ (by omega)) 0 s gz).mono ?_
          rintro e wa2 ⟨⟨ra2, rfl⟩, ga2, ba2, oa2⟩
          have Ga2 := Lib.hid ga2
          have Ba2 := Lib.hid ba2
          have Oa2 := Lib.hid oa2
          clear ga2 ba2 oa2
          go_wp2_with fail
          rw [rounds_succ]
          go_wp2_with fail
          refine (feed_in W _ _ _ Ga2.out Ba2.out Oa2.out (Nat.mod_lt _ (by omega)) 0 s gz).mono ?_
          rintro e wa3 ⟨⟨ra3, rfl⟩, ga3, ba3, oa3⟩
          have Ga3 := Lib.hid ga3
          have Ba3 := Lib.hid ba3
          have Oa3 := Lib.hid oa3
          clear ga3 ba3 oa3
          go_wp2_with fail
          rw [rounds_succ]
          go_wp2_with fail
          have KG := Lib.hid (Ga3.out)
          have KB := Ba3
          rw [put4 f i hi4 0 s] at KG
          have zok : FS.ok ⟨0, s, 0, s, 0, s, 0, s⟩ := ⟨gz, gz, gz, gz⟩
          refine (freq_any _ _ 100 900 _ _ KG.out zok rfl).mono ?_
          rintro e wf ⟨he, bf⟩
          rw [four_zero s hs] at he
          subst he
          have MG := Lib.hid (KG.out.below bf)
          have MB := Lib.hid (KB.out.trans (bf.mono KB.out.size))
          clear bf
          have hj : ((((i + 1) % 4 + 1) % 4 + 1) % 4 + 1) % 4 < 4 := Nat.mod_lt _ (by omega)
          generalize ((((i + 1) % 4 + 1) % 4 + 1) % 4 + 1) % 4 = j at KG MG hj
          go_wp2_with fail
          refine wp_loop_rounds 5 ?_
          rw [rounds_succ]
          go_wp2_with fail
          refine (feed_in W _ _ _ MG.out MB.out (Lib.hid zok).out hj s s gs).mono ?_
          rintro e wc0 ⟨⟨rc0, rfl⟩, gc0, bc0, oc0⟩
          have Gc0 := Lib.hid gc0
          have Bc0 := Lib.hid bc0
          have Oc0 := Lib.hid oc0
          clear gc0 bc0 oc0
          go_wp2_with fail
          rw [rounds_succ]
          go_wp2_with fail
          refine (feed_in W _ _ _ Gc0.out Bc0.out Oc0.out (Nat.mod_lt _ (by omega)) s s gs).mono ?_
          rintro e wc1 ⟨⟨rc1, rfl⟩, gc1, bc1, oc1⟩
          have Gc1 := Lib.hid gc1
          have Bc1 := Lib.hid bc1
          have Oc1 := Lib.hid oc1
          clear gc1 bc1 oc1
          go_wp2_with fail
          rw [rounds_succ]
          go_wp2_with fail
          refine (feed_in W _ _ _ Gc1.out Bc1.out Oc1.out (Nat.mod_lt _ (by omega)) s s gs).mono ?_
          rintro e wc2 ⟨⟨rc2, rfl⟩, gc2, bc2, oc2⟩
          have Gc2 := Lib.hid gc2
          have Bc2 := Lib.hid bc2
          have Oc2 := Lib.hid oc2
          clear gc2 bc2 oc2
          go_wp2_with fail
          rw [rounds_succ]
          go_wp2_with fail
          refine (feed_in W _ _ _ Gc2.out Bc2.out Oc2.out (Nat.mod_lt _ (by omega)) s s gs).mono ?_
          rintro e wc3 ⟨⟨rc3, rfl⟩, gc3, bc3, oc3⟩
          have Gc3 := Lib.hid gc3
          have Bc3 := Lib.hid bc3
          have Oc3 := Lib.hid oc3
          clear gc3 bc3 oc3
          go_wp2_with fail
          rw [rounds_succ]
          go_wp2_with fail
          have PG := Lib.hid (Gc3.out)
          rw [put4 _ j hj s s] at PG
          refine (freq_any _ _ 100 900 _ _ PG.out ⟨gs, gs, gs, gs⟩ rfl).mono ?_
          rintro e wh ⟨he, bh⟩
          rw [four_all s hs] at he
          subst he
          have PB := Bc3.out.trans (bh.mono Bc3.out.size)
          go_wp2_with fail
          refine (FreqC.known_ok _).mono ?_
          rintro e wi ⟨rfl, bi⟩
          go_wp2_with fail
          go_returns
          exact ⟨rfl, PB.trans (bi.mono PB.size)⟩
end Go.Proofs.Ytplppmgecknhiaa.FreqD
