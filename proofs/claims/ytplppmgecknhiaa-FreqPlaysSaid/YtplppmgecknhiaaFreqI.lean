/- What one act does to both governors. -/
import Derived.Test.YtplppmgecknhiaaFreqH
import Derived.Test.YtplppmgecknhiaaFreqE
namespace Go.Proofs.Ytplppmgecknhiaa.FreqI
open Go.RowKit Go.Proofs.Ytplppmgecknhiaa.NumD Go.Proofs.Ytplppmgecknhiaa.NumE Go.Proofs.Ytplppmgecknhiaa.NumF Go.Proofs.Ytplppmgecknhiaa.Frame Go.Proofs.Ytplppmgecknhiaa.FreqA Go.Proofs.Ytplppmgecknhiaa.FreqB Go.Proofs.Ytplppmgecknhiaa.FreqF Go.Proofs.Ytplppmgecknhiaa.FreqG Go.Proofs.Ytplppmgecknhiaa.FreqH
set_option linter.unusedVariables false
theorem rbusy_eq (l : List (Int × Int)) : rbusyF l = busyF (ring l).1 := by unfold rbusyF busyF; rw [(sums l).1, (sums l).2]
def SetR (lo0 hi0 A C c lo hi : Int) : Prop := (rightB A C = true ∧ c = 0 ∧ lo = A ∧ hi = C) ∨ (rightB A C = false ∧ c = 2 ∧ lo = lo0 ∧ hi = hi0)
theorem setR_ex (lo0 hi0 A C : Int) : ∃ c lo hi, SetR lo0 hi0 A C c lo hi := by
  cases h : rightB A C with
  | true => exact ⟨_, _, _, .inl ⟨h, rfl, rfl, rfl⟩⟩
  | false => exact ⟨_, _, _, .inr ⟨h, rfl, rfl, rfl⟩⟩
theorem setR_right {lo0 hi0 A C c lo hi : Int} (h : SetR lo0 hi0 A C c lo hi) (rt : rightB lo0 hi0 = true) : rightB lo hi = true := by
  rcases h with ⟨a, _, rfl, rfl⟩ | ⟨a, _, rfl, rfl⟩
  · exact a
  · exact rt
theorem set_f {lo0 hi0 A C c lo hi : Int} (h : SetR lo0 hi0 A C c lo hi) (w : World) (g : Nat) (f : FS) (i : Nat) (hg : Gov w g lo0 hi0 f i) :
    Calls Try.prog 45 #[.pointer (some ⟨g, 0, none⟩), .int .i64 A, .int .i64 C] w fun e w' => e = .returned (.int .i64 c) ∧ Gov w' g lo hi f i ∧ Ch (· = g) w w' := by
  rcases h with ⟨a, rfl, rfl, rfl⟩ | ⟨a, rfl, rfl, rfl⟩
  · exact set_ok w g lo0 hi0 f i hg _ _ a
  · exact (set_bad w g A C a).mono fun e w' k => ⟨k.1, k.2 ▸ hg, k.2 ▸ Ch.refl _ _⟩
theorem rset_f {lo0 hi0 A C c lo hi : Int} (h : SetR lo0 hi0 A C c lo hi) (w : World) (r : Nat) (v : Value) (l : List (Int × Int)) (hg : RGov w r lo0 hi0 v l) :
    Calls Try.prog 46 #[.pointer (some ⟨r, 0, none⟩), .int .i64 A, .int .i64 C] w fun e w' => e = .returned (.int .i64 c) ∧ RGov w' r lo hi v l ∧ Ch (· = r) w w' := by
  rcases h with ⟨a, rfl, rfl, rfl⟩ | ⟨a, rfl, rfl, rfl⟩
  · exact rset_ok w r lo0 hi0 v l hg _ _ a
  · exact (rset_bad w r A C a).mono fun e w' k => ⟨k.1, k.2 ▸ hg, k.2 ▸ Ch.refl _ _⟩
def FeedR (lo hi : Int) (l : List (Int × Int)) (A C x c : Int) (l2 : List (Int × Int)) : Prop :=
  (good A C ∧ l2 = l ++ [(A, C)] ∧ scaleF lo hi (busyF (ring l2).1) = x ∧ c = 0) ∨ (¬ good A C ∧ l2 = l ∧ x = 0 ∧ c = 2)
theorem feedR_ex (lo hi : Int) (l : List (Int × Int)) (A C : Int) : ∃ x c l2, FeedR lo hi l A C x c l2 := by
  rcases Classical.em (good A C) with h | h
  · exact ⟨_, _, _, .inl ⟨h, rfl, rfl, rfl⟩⟩
  · exact ⟨_, _, _, .inr ⟨h, rfl, rfl, rfl⟩⟩
theorem feedR_keep {lo hi : Int} {l : List (Int × Int)} {A C x c : Int} {l2 : List (Int × Int)} (h : FeedR lo hi l A C x c l2) (gl : goods l) (ok : (ring l).1.ok) (i4 : (ring l).2 < 4) : goods l2 ∧ (ring l2).1.ok ∧ (ring l2).2 < 4 ∧ l2.length ≤ l.length + 1 := by
  rcases h with ⟨a, rfl, _, _⟩ | ⟨a, rfl, _, _⟩
  · rw [ring_snoc]
    exact ⟨goods_snoc gl a, FS.put_ok ok _ a, Nat.mod_lt _ (by omega), by simp⟩
  · exact ⟨gl, ok, i4, by omega⟩
theorem feed_f {lo hi : Int} {l : List (Int × Int)} {A C x c : Int} {l2 : List (Int × Int)} (h : FeedR lo hi l A C x c l2) (w : World) (g : Nat) (hg : Gov w g lo hi (ring l).1 (ring l).2) (ok : (ring l).1.ok) (i4 : (ring l).2 < 4) (rt : rightB lo hi = true) :
    Calls Try.prog 32 #[.pointer (some ⟨g, 0, none⟩), .int .i64 A, .int .i64 C] w fun e w' => e = .returned (.tuple #[.int .i64 x, .int .i64 c]) ∧ Gov w' g lo hi (ring l2).1 (ring l2).2 ∧ Ch (· = g) w w' := by
  rcases h with ⟨a, rfl, hx, rfl⟩ | ⟨a, rfl, rfl, rfl⟩
  · rw [ring_snoc] at hx ⊢
    rw [← hx]
    exact feed_ok w g lo hi _ _ hg ok rt i4 A C a
  · exact (feed_bad w g A C a).mono fun e w' k => ⟨k.1, k.2 ▸ hg, k.2 ▸ Ch.refl _ _⟩
theorem rfeed_f {lo hi : Int} {l : List (Int × Int)} {A C x c : Int} {l2 : List (Int × Int)} (h : FeedR lo hi l A C x c l2) (w : World) (r : Nat) (v : Value) (hg : RGov w r lo hi v l) (gl : goods l) (h100 : l.length < 100) (rt : rightB lo hi = true) :
    Calls Try.prog 47 #[.pointer (some ⟨r, 0, none⟩), .int .i64 A, .int .i64 C] w fun e w' => e = .returned (.tuple #[.int .i64 x, .int .i64 c]) ∧ (∃ v', RGov w' r lo hi v' l2) ∧ Ch (fun k => r ≤ k) w w' := by
  rcases h with ⟨a, rfl, hx, rfl⟩ | ⟨a, rfl, rfl, rfl⟩
  · exact rfeed_ok w r lo hi v l hg gl h100 rt A C a x (by rw [rbusy_eq]; exact hx)
  · exact (rfeed_bad w r A C a).mono fun e w' k => ⟨k.1, ⟨v, k.2 ▸ hg⟩, k.2 ▸ Ch.refl _ _⟩
theorem busy_is (w : World) (g : Nat) (lo hi : Int) (f : FS) (i : Nat) (h : Gov w g lo hi f i) (ok : f.ok) (B : Int) (hB : busyF f = B) :
    Calls Try.prog 50 #[.pointer (some ⟨g, 0, none⟩)] w fun e w' => e = .returned (.int .i64 B) ∧ Below w.heap.size w w' := by
  rw [← hB]
  exact busy_any w g lo hi f i h ok
theorem keepch {F : Nat → Prop} {W w1 : World} (hc : Ch F W w1) {b o : Nat} {v : Value} (h : W.cell? ⟨b, o, none⟩ = some v) (hF : ¬ F b) : w1.cell? ⟨b, o, none⟩ = some v := (hc.cell (World.block_lt_of_cell? _ _ h) hF).trans h
theorem RGov.ch {F : Nat → Prop} {w w' : World} {r : Nat} {lo hi : Int} {v : Value} {l : List (Int × Int)} (h : RGov w r lo hi v l) (hc : Ch F w w') (hF : ∀ k, r ≤ k → ¬ F k) : RGov w' r lo hi v l :=
  ⟨(hc.cell h.lt (hF r (Nat.le_refl _))).trans h.c0, (hc.cell h.lt (hF r (Nat.le_refl _))).trans h.c1, (hc.cell h.lt (hF r (Nat.le_refl _))).trans h.c2, fun o => (hc.frozen h.lt (hF r (Nat.le_refl _))).trans (h.fz o),
   by
    rcases h.own with ⟨h1, h2⟩
    refine ⟨h1, ?_⟩
    rcases h2 with h2 | ⟨g, cap, cur, hv, hg, hh, hrest⟩
    · exact .inl h2
    · exact .inr ⟨g, cap, cur, hv, hg, (hc.block g (lt_of_block hh) (hF g (by omega))).trans hh, hrest⟩, Nat.lt_of_lt_of_le h.lt hc.size⟩
end Go.Proofs.Ytplppmgecknhiaa.FreqI
