/- Part 13 of the proof: contracts and plain laws, each under the conditions that it names. -/
import Derived.Test.YtiocbpabbjgkhaaGreatDoorPow12
import Derived.LoopN
set_option maxRecDepth 100000
set_option maxHeartbeats 20000000
set_option linter.unusedVariables false
set_option linter.unusedSimpArgs false
namespace Go.Proofs.YtiocbpabbjgkhaaGreatDoor
open Go.RowKit Go.Proofs.Tryz
variable {w w' : World} {F : Nat → Prop} {p : Nat}
def chooseM (want active:Nat):Nat:=if want &&& active=0 then active else want &&& active
def chooseF (want active:Nat) (near:Int):Int × Bool × Int :=
 if active=0 then (0,false,12) else
 if hasF (chooseM want active) near then (near,decide (want &&& active=0),0) else
 ((nextF (chooseM want active) near).1,decide (want &&& active=0),(nextF (chooseM want active) near).2)
theorem choose_any (want active:Nat) (h1:want < top64) (h2:active < top64) (near:Int) (w:World) (hT:Tab w):Calls prog 215 #[.int .u64 want,.int .u64 active,.int .i64 near] w fun e w'=>e=.returned (.tuple #[.int .i64 (chooseF want active near).1,.bool (chooseF want active near).2.1,.int .i64 (chooseF want active near).2.2])∧w=w':=by
 unfold chooseF
 by_cases h0:active=0
 ·subst h0
  rw [if_pos rfl]
  go_enter func215,ntmps215
  go_wp2;go_returns
  exact ⟨rfl,rfl⟩
 ·rw [if_neg h0]
  have h0':((active:Int) == 0)=false:=by simpa using h0
  have A:=Hd (and_any want active h1 h2 w)
  have hlt:want &&& active < top64:=Nat.lt_of_le_of_lt Nat.and_le_left h1
  by_cases hf:want &&& active=0
  ·have hm:chooseM want active=active:=by unfold chooseM;rw [if_pos hf]
   rw [hm,decide_eq_true hf];rw [hf] at A;have B:=Hd (has_any active h2 near w);have C:=Hd (next_any active h2 near w hT);generalize hasF active near=hb at *;generalize nextF active near=nx at *;clear h0 hf hm
   cases hb with
   | true =>
    rw [if_pos rfl]
    go_enter func215,ntmps215
    go_wp2_with fail;refine A.out.mono ?_;rintro e w1 ⟨rfl,rfl⟩;go_wp2_with fail;refine B.out.mono ?_;rintro e w1 ⟨rfl,rfl⟩;go_wp2;go_returns
    exact ⟨rfl,rfl⟩
   | false =>
    rw [if_neg (by simp)]
    go_enter func215,ntmps215
    go_wp2_with fail;refine A.out.mono ?_;rintro e w1 ⟨rfl,rfl⟩;go_wp2_with fail;refine B.out.mono ?_;rintro e w1 ⟨rfl,rfl⟩;go_wp2_with fail;refine C.out.mono ?_;rintro e w1 ⟨rfl,rfl⟩;go_wp2;go_returns
    exact ⟨rfl,rfl⟩
  ·have hm:chooseM want active=want &&& active:=by unfold chooseM;rw [if_neg hf]
   have hf':(((want &&& active:Nat):Int) == 0)=false:=by simpa using hf
   rw [hm,decide_eq_false hf];generalize want &&& active=u at *;have B:=Hd (has_any u hlt near w);have C:=Hd (next_any u hlt near w hT);generalize hasF u near=hb at *;generalize nextF u near=nx at *;clear h0 hf hm
   cases hb with
   | true =>
    rw [if_pos rfl]
    go_enter func215,ntmps215
    go_wp2_with fail;refine A.out.mono ?_;rintro e w1 ⟨rfl,rfl⟩;go_wp2_with fail;refine B.out.mono ?_;rintro e w1 ⟨rfl,rfl⟩;go_wp2;go_returns
    exact ⟨rfl,rfl⟩
   | false =>
    rw [if_neg (by simp)]
    go_enter func215,ntmps215
    go_wp2_with fail;refine A.out.mono ?_;rintro e w1 ⟨rfl,rfl⟩;go_wp2_with fail;refine B.out.mono ?_;rintro e w1 ⟨rfl,rfl⟩;go_wp2_with fail;refine C.out.mono ?_;rintro e w1 ⟨rfl,rfl⟩;go_wp2;go_returns
    exact ⟨rfl,rfl⟩
def wrongF (active mask:Nat) (cpu:Int) (forced:Bool):Bool :=
 if !hasF active cpu then true else if !hasF mask cpu && decide (mask &&& active≠0) then true else forced == hasF mask cpu
theorem wrong_any (active mask:Nat) (h1:active < top64) (h2:mask < top64) (id cpu:Int) (forced:Bool) (w:World):Calls prog 220 #[.int .u64 active,.agg #[.int .i64 id,.int .u64 mask,.int .i64 cpu,.bool forced]] w fun e w'=>e=.returned (.bool (wrongF active mask cpu forced))∧Below w.heap.size w w':=by
 have hb0:=Hd ((Below.refl w.heap.size w).alloc (Nat.le_refl _) (.cells #[.int .i64 id,.int .u64 mask,.int .i64 cpu,.bool forced] 320))
 have A:=Hd (fun w=>has_any mask h2 cpu w);have B:=Hd (fun w=>has_any active h1 cpu w);have C:=Hd (fun w=>and_any mask active h2 h1 w);unfold wrongF;generalize hasF mask cpu=hm at *;generalize hasF active cpu=ha at *
 cases ha with
 | false =>
  go_enter func220,ntmps220
  go_wp2_with fail;refine (A.out _).mono ?_;rintro e w1 ⟨rfl,rfl⟩;go_wp2_with fail;refine (B.out _).mono ?_;rintro e w1 ⟨rfl,rfl⟩;go_wp2;go_returns
  exact ⟨rfl,hb0.out⟩
 | true =>
  cases hm with
  | true =>
   go_enter func220,ntmps220
   go_wp2_with fail;refine (A.out _).mono ?_;rintro e w1 ⟨rfl,rfl⟩;go_wp2_with fail;refine (B.out _).mono ?_;rintro e w1 ⟨rfl,rfl⟩;go_wp2;go_returns
   exact ⟨by simp,hb0.out⟩
  | false =>
   by_cases hz:mask &&& active=0
   ·rw [hz] at C
    have e:decide (mask &&& active≠0)=false:=by simpa using hz
    rw [e];clear hz e
    go_enter func220,ntmps220
    go_wp2_with fail;refine (A.out _).mono ?_;rintro e w1 ⟨rfl,rfl⟩;go_wp2_with fail;refine (B.out _).mono ?_;rintro e w1 ⟨rfl,rfl⟩;go_wp2_with fail;refine (C.out _).mono ?_;rintro e w1 ⟨rfl,rfl⟩;go_wp2;go_returns
    exact ⟨by simp,hb0.out⟩
   ·have e:decide (mask &&& active≠0)=true:=by simpa using hz
    have hz':(((mask &&& active:Nat):Int) != 0)=true:=by simpa using hz
    rw [e];generalize mask &&& active=u at *;clear hz e
    go_enter func220,ntmps220
    go_wp2_with fail;refine (A.out _).mono ?_;rintro e w1 ⟨rfl,rfl⟩;go_wp2_with fail;refine (B.out _).mono ?_;rintro e w1 ⟨rfl,rfl⟩;go_wp2_with fail;refine (C.out _).mono ?_;rintro e w1 ⟨rfl,rfl⟩;go_wp2;go_returns
    exact ⟨by simp,hb0.out⟩
def tableCells:Array Value:=#[.int .i64 0,.int .i64 0,.int .i64 100,.int .i64 2,.int .i64 10,.int .i64 60,.int .i64 10,.int .i64 50,.int .i64 25,.int .i64 50,.int .i64 400,.int .i64 5]
theorem table_any (w:World):Calls prog 10 #[] w fun e w'=>e=.returned (.slice (some ⟨w.heap.size,0,none⟩) 4 4)∧w'=w.alloc (.cells tableCells 45):=by
 go_enter func10,ntmps10
 go_wp2;go_returns
 exact ⟨rfl,rfl⟩
def wayF (rest limit:Int):Int:=if 50≤limit∧400≤rest then 3 else if 10≤limit∧50≤rest then 2 else if 2≤limit∧10≤rest then 1 else 0
theorem way_any (rest limit:Int) (w:World) (b:Nat) (h:Blk w b tableCells 45):Calls prog 200 #[.slice (some ⟨b,0,none⟩) 4 4,.int .i64 rest,.int .i64 limit] w fun e w'=>e=.returned (.int .i64 (wayF rest limit))∧w=w':=by
 have k0:w.cell? ⟨b,0,none⟩=some (.int .i64 0):=h.cell 0
 have k3:w.cell? ⟨b,3,none⟩=some (.int .i64 2):=h.cell 3
 have k4:w.cell? ⟨b,4,none⟩=some (.int .i64 10):=h.cell 4
 have k6:w.cell? ⟨b,6,none⟩=some (.int .i64 10):=h.cell 6
 have k7:w.cell? ⟨b,7,none⟩=some (.int .i64 50):=h.cell 7
 have k9:w.cell? ⟨b,9,none⟩=some (.int .i64 50):=h.cell 9
 have k10:w.cell? ⟨b,10,none⟩=some (.int .i64 400):=h.cell 10
 clear h;unfold wayF
 by_cases h3:50≤limit∧400≤rest
 ·rw [if_pos h3]
  obtain ⟨h1,h2⟩:=h3
  go_enter func200,ntmps200
  go_wp2
  refine wp_loop_rounds 4 ?_
  rw [rounds_succ];go_wp2;go_returns
  exact ⟨rfl,rfl⟩
 ·rw [if_neg h3]
  by_cases h2:10≤limit∧50≤rest
  ·rw [if_pos h2]
   obtain ⟨h1,h2⟩:=h2
   rcases (by omega:¬ 50≤limit∨(50≤limit∧¬ 400≤rest)) with h4 | ⟨h4,h5⟩
   all_goals
    clear h3
    go_enter func200,ntmps200
    go_wp2
    refine wp_loop_rounds 4 ?_
    rw [rounds_succ];go_wp2;rw [rounds_succ];go_wp2;go_returns
    exact ⟨rfl,rfl⟩
  ·rw [if_neg h2]
   by_cases h1:2≤limit∧10≤rest
   ·rw [if_pos h1]
    obtain ⟨h6,h7⟩:=h1
    rcases (by omega:(¬ 10≤limit)∨(10≤limit∧¬ 50≤limit∧¬ 50≤rest)∨(50≤limit∧¬ 50≤rest)) with h4 | ⟨h4,h5,h8⟩ | ⟨h4,h5⟩
    all_goals
     clear h3 h2
     go_enter func200,ntmps200
     go_wp2
     refine wp_loop_rounds 4 ?_
     rw [rounds_succ];go_wp2;rw [rounds_succ];go_wp2;rw [rounds_succ];go_wp2;go_returns
     exact ⟨rfl,rfl⟩
   ·rw [if_neg h1]
    rcases (by omega:(¬ 2≤limit)∨(2≤limit∧¬ 10≤limit∧¬ 10≤rest)∨(10≤limit∧¬ 50≤limit∧¬ 10≤rest)∨(50≤limit∧¬ 10≤rest)) with h4 | ⟨h4,h5,h6⟩ | ⟨h4,h5,h6⟩ | ⟨h4,h5⟩
    all_goals
     clear h3 h2 h1
     go_enter func200,ntmps200
     go_wp2
     refine wp_loop_rounds 4 ?_
     rw [rounds_succ];go_wp2;rw [rounds_succ];go_wp2;rw [rounds_succ];go_wp2;rw [rounds_succ];go_wp2;go_returns
     exact ⟨rfl,rfl⟩
def predF (now due:Int) (known:Bool):Int:=if known then (if now < 0∨due≤now then 0 else min (due - now) 1073741824) else 1073741824
theorem pred_any (now due:Int) (known:Bool) (h1:now≤1152921504606846976) (h2:0≤due∧due≤1152921504606846976) (w:World):Calls prog 198 #[.int .i64 now,.int .i64 due,.bool known] w fun e w'=>e=.returned (.int .i64 (predF now due known))∧w=w':=by
 unfold predF
 cases known with
 | false =>
  go_enter func198,ntmps198
  go_wp2;go_returns
  exact ⟨rfl,rfl⟩
 | true =>
  rw [if_pos rfl]
  by_cases h:now < 0∨due≤now
  ·rw [if_pos h]
   rcases (by omega:now < 0∨(¬ now < 0∧due≤now)) with h3 | ⟨h3,h4⟩
   all_goals
    clear h
    go_enter func198,ntmps198
    go_wp2;go_returns
    exact ⟨rfl,rfl⟩
  ·rw [if_neg h]
   have h3:¬ now < 0∧¬ due≤now:=by omega
   obtain ⟨h3,h4⟩:=h3;clear h
   have hmin:=fun ats ty a b=>min_two ats ty a b
   have hmin2:=fun k k' x y=>min2_int k k' x y
   go_enter func198,ntmps198
   go_wp2
   all_goals
    go_returns
    refine ⟨?_,rfl⟩
    first
     | (rw [Int.min_eq_right (by omega)];rfl)
     | (rw [Int.min_eq_left (by omega)];rfl)
section
open Go.Proofs.YtiocbpabbjgkhaaGreatDoor.NumD Go.Proofs.YtiocbpabbjgkhaaGreatDoor.NumE
def goodF (b a:Int):Prop:=0≤b∧b≤a∧a≤1099511627776
structure Feeds where
 b0:Int
 a0:Int
 b1:Int
 a1:Int
 b2:Int
 a2:Int
 b3:Int
 a3:Int
structure Feeds.ok (f:Feeds):Prop where
 g0:goodF f.b0 f.a0
 g1:goodF f.b1 f.a1
 g2:goodF f.b2 f.a2
 g3:goodF f.b3 f.a3
def govCells (lo hi:Int) (f:Feeds) (i:Nat):Array Value:=#[.int .i64 lo,.int .i64 hi,.int .i64 f.b0,.int .i64 f.a0,.int .i64 f.b1,.int .i64 f.a1,.int .i64 f.b2,.int .i64 f.a2,.int .i64 f.b3,.int .i64 f.a3,.int .i64 i]
def rightG (lo hi:Int):Bool:=decide (1≤lo) && decide (hi≤100000) && decide (lo≤hi)
structure GovAtQ (w:World) (F:Nat→Prop) (p:Nat) (s:Int × Int) (f:Feeds) (i:Nat):Prop where
 head:Blk w p (govCells s.1 s.2 f i) 168
 fp:F p
 ok:f.ok
 i4:i < 4
 rt:rightG s.1 s.2=true
def GovAt (w:World) (F:Nat→Prop) (p:Nat) (s:Int × Int):Prop:=∃ f i,GovAtQ w F p s f i
theorem GovAt.ch {F G:Nat→Prop} {s:Int × Int} (h:GovAt w F p s) (hc:Ch G w w') (hd:∀ b,F b→¬ G b):GovAt w' F p s:=by
 obtain ⟨f,i,h⟩:=h
 exact ⟨f,i,h.head.ch hc (hd _ h.fp),h.fp,h.ok,h.i4,h.rt⟩
theorem GovAt.mono {F G:Nat→Prop} {s:Int × Int} (h:GovAt w F p s) (hd:∀ b,F b→G b):GovAt w G p s:=by
 obtain ⟨f,i,h⟩:=h
 exact ⟨f,i,h.head,hd _ h.fp,h.ok,h.i4,h.rt⟩
theorem ownG:Ownable GovAt:=⟨GovAt.ch,fun h hd _=>h.mono hd⟩
theorem GovAt.below {s:Int × Int} (h:GovAt w F p s) (hb:Below w.heap.size w w'):GovAt w' F p s:=h.ch (Ch.off hb) (fun _ _ h=>h)
theorem rightG_iff {lo hi:Int} (h:rightG lo hi=true):1≤lo∧hi≤100000∧lo≤hi:=by
 unfold rightG at h
 simp at h
 omega
theorem vright_any (lo hi:Int) (w:World):Calls prog 117 #[.int .i64 lo,.int .i64 hi] w fun e w'=>e=.returned (.bool (rightG lo hi))∧w=w':=by
 rcases (by omega:lo < 1∨(1≤lo∧100000 < hi)∨(1≤lo∧hi≤100000)) with a | ⟨a,b⟩ | ⟨a,b⟩
 ·have e:rightG lo hi=false:=by simp [rightG];omega
  rw [e];clear e
  go_enter func117,ntmps117
  go_wp2;go_returns
  exact ⟨rfl,rfl⟩
 ·have e:rightG lo hi=false:=by simp [rightG];omega
  rw [e];clear e
  go_enter func117,ntmps117
  go_wp2;go_returns
  exact ⟨rfl,rfl⟩
 ·have e:rightG lo hi=decide (lo≤hi):=by simp [rightG,a,b]
  rw [e];clear e
  go_enter func117,ntmps117
  go_wp2;go_returns
  exact ⟨rfl,rfl⟩
theorem vlimits_any (w:World) {s:Int × Int} (h:GovAt w F p s):Calls prog 15 #[.pointer (some ⟨p,0,none⟩)] w fun e w'=>e=.returned (.tuple #[.int .i64 s.1,.int .i64 s.2])∧∃ n,w'=w.drewN n:=by
 obtain ⟨f,i,h⟩:=h
 have c0:w.cell? ⟨p,0,none⟩=some (.int .i64 s.1):=h.head.cell 0
 have c1:w.cell? ⟨p,1,none⟩=some (.int .i64 s.2):=h.head.cell 1
 clear h
 go_enter func15,ntmps15
 go_wp2;go_quiet (fail)
 try go_wp2
 go_returns
 exact ⟨rfl,_,rfl⟩
theorem vbusy_any (w:World) {s:Int × Int} (h:GovAt w F p s):Calls prog 91 #[.pointer (some ⟨p,0,none⟩)] w fun e w'=>(∃ b,e=.returned (.int .i64 b)∧0≤b∧b≤100)∧Below w.heap.size w w':=by
 obtain ⟨f,i,h⟩:=h;have ok:=h.ok
 have c2:w.cell? ⟨p,2,none⟩=some (.int .i64 f.b0):=h.head.cell 2
 have c3:w.cell? ⟨p,3,none⟩=some (.int .i64 f.a0):=h.head.cell 3
 have c4:w.cell? ⟨p,4,none⟩=some (.int .i64 f.b1):=h.head.cell 4
 have c5:w.cell? ⟨p,5,none⟩=some (.int .i64 f.a1):=h.head.cell 5
 have c6:w.cell? ⟨p,6,none⟩=some (.int .i64 f.b2):=h.head.cell 6
 have c7:w.cell? ⟨p,7,none⟩=some (.int .i64 f.a2):=h.head.cell 7
 have c8:w.cell? ⟨p,8,none⟩=some (.int .i64 f.b3):=h.head.cell 8
 have c9:w.cell? ⟨p,9,none⟩=some (.int .i64 f.a3):=h.head.cell 9
 have hlt:=h.head.lt;clear h;obtain ⟨b0,a0,b1,a1,b2,a2,b3,a3⟩:=f
 obtain ⟨⟨g00,g01,g02⟩,⟨g10,g11,g12⟩,⟨g20,g21,g22⟩,⟨g30,g31,g32⟩⟩:=ok
 simp only [] at *
 have s0:wrap64 b0=b0:=by unfold wrap64;omega
 have s1:wrap64 (b0+b1)=b0+b1:=by unfold wrap64;omega
 have s2:wrap64 (b0+b1+b2)=b0+b1+b2:=by unfold wrap64;omega
 have s3:wrap64 (b0+b1+b2+b3)=b0+b1+b2+b3:=by unfold wrap64;omega
 have t0:wrap64 a0=a0:=by unfold wrap64;omega
 have t1:wrap64 (a0+a1)=a0+a1:=by unfold wrap64;omega
 have t2:wrap64 (a0+a1+a2)=a0+a1+a2:=by unfold wrap64;omega
 have t3:wrap64 (a0+a1+a2+a3)=a0+a1+a2+a3:=by unfold wrap64;omega
 have hB:=Hd (show In64 (b0+b1+b2+b3) from ⟨by omega,by omega⟩)
 have hA:=Hd (show In64 (a0+a1+a2+a3) from ⟨by omega,by omega⟩)
 have hP:∀ p q:Int,0≤percentF p q∧percentF p q≤100:=fun p q=>by
  unfold percentF
  split
  ·omega
  ·split
   ·omega
   ·rename_i h1 h2
    refine ⟨Int.natCast_nonneg _,?_⟩
    have:p.toNat*100 / q.toNat≤100:=by
     exact Nat.div_le_of_le_mul (Nat.mul_le_mul_right _ (by omega))
    omega
 replace hP:=Hd hP
 have i0:∀ w:World,(Instr.index 166 (.agg #[.int .i64 b0,.int .i64 a0,.int .i64 b1,.int .i64 a1,.int .i64 b2,.int .i64 a2,.int .i64 b3,.int .i64 a3]) (.int .i64 0)).run prog w=.ok (.agg #[.int .i64 b0,.int .i64 a0]) w:=fun _=>by kernel_rfl
 have i1:∀ w:World,(Instr.index 166 (.agg #[.int .i64 b0,.int .i64 a0,.int .i64 b1,.int .i64 a1,.int .i64 b2,.int .i64 a2,.int .i64 b3,.int .i64 a3]) (.int .i64 1)).run prog w=.ok (.agg #[.int .i64 b1,.int .i64 a1]) w:=fun _=>by kernel_rfl
 have i2:∀ w:World,(Instr.index 166 (.agg #[.int .i64 b0,.int .i64 a0,.int .i64 b1,.int .i64 a1,.int .i64 b2,.int .i64 a2,.int .i64 b3,.int .i64 a3]) (.int .i64 2)).run prog w=.ok (.agg #[.int .i64 b2,.int .i64 a2]) w:=fun _=>by kernel_rfl
 have i3:∀ w:World,(Instr.index 166 (.agg #[.int .i64 b0,.int .i64 a0,.int .i64 b1,.int .i64 a1,.int .i64 b2,.int .i64 a2,.int .i64 b3,.int .i64 a3]) (.int .i64 3)).run prog w=.ok (.agg #[.int .i64 b3,.int .i64 a3]) w:=fun _=>by kernel_rfl
 clear g00 g01 g02 g10 g11 g12 g20 g21 g22 g30 g31 g32
 go_enter func91,ntmps91
 go_wp2
 refine wp_loop_rounds 5 ?_
 iterate 5 (rw [rounds_succ];go_wp2_with fail)
 refine (percent_any _ _ hB.out hA.out _).mono ?_;rintro e w1 ⟨rfl,n,hn⟩;rw [hn];clear hn;go_wp2;go_returns
 refine ⟨⟨_,rfl,hP.out _ _⟩,below_drewN ?_ _⟩
 go_grown
theorem scaleF_in {lo hi p:Int} (h:lo≤hi):lo≤scaleF lo hi p∧scaleF lo hi p≤hi:=by
 unfold scaleF
 split
 ·omega
 ·split
  ·omega
  ·rename_i h1 h2
   have h3:(hi - lo).toNat*p.toNat / 100≤(hi - lo).toNat:=by
    refine Nat.div_le_of_le_mul ?_
    rw [Nat.mul_comm 100]
    exact Nat.mul_le_mul_left _ (by omega)
   omega
theorem vfreq_any (w:World) {s:Int × Int} (h:GovAt w F p s):Calls prog 16 #[.pointer (some ⟨p,0,none⟩)] w fun e w'=>(∃ f,e=.returned (.int .i64 f)∧s.1≤f∧f≤s.2)∧Below w.heap.size w w':=by
 have A:=Hd (vlimits_any w h)
 have B:=fun n=>Hd (vbusy_any (w.drewN n) (h.below (belowN w n)))
 have hr:rightG s.1 s.2=true:=by obtain ⟨f,i,h⟩:=h;exact h.rt
 have hri:=rightG_iff hr
 obtain ⟨lo,hi⟩:=s;dsimp only at *;clear h hr
 have hlo:In64 lo:=⟨by omega,by omega⟩
 have hhi:In64 hi:=⟨by omega,by omega⟩
 have hsc:=Hd (fun p=>scaleF_in (lo:=lo) (hi:=hi) (p:=p) hri.2.2)
 replace hlo:=Hd hlo;replace hhi:=Hd hhi;clear hri
 go_enter func16,ntmps16
 go_wp2_with fail;refine A.out.mono ?_;rintro e w1 ⟨rfl,n,rfl⟩;go_wp2_with fail;refine (B n).out.mono ?_;rintro e w2 ⟨⟨b,rfl,hb1,hb2⟩,hb⟩;have C:=Hd (scale_any lo hi b hlo.out hhi.out ⟨by omega,by omega⟩ w2)
 replace hb:=Hd ((belowN w n).trans hb)
 go_wp2_with fail;refine C.out.mono ?_;rintro e w3 ⟨rfl,n,rfl⟩;go_wp2;go_returns
 exact ⟨⟨_,rfl,hsc.out b⟩,hb.out.trans ((belowN w2 n).mono hb.out.size)⟩
theorem vset_any (w:World) {s:Int × Int} (h:GovAt w F p s) (lo hi:Int):Calls prog 246 #[.pointer (some ⟨p,0,none⟩),.int .i64 lo,.int .i64 hi] w fun e w'=>e=.returned (.int .i64 (if rightG lo hi then 0 else 2))∧GovAt w' F p (if rightG lo hi then (lo,hi) else s)∧Ch F w w'∧w'.heap.size=w.heap.size:=by
 have A:=Hd (vright_any lo hi w);have HT:=Hd h;obtain ⟨f,i,h⟩:=h
 have c0:w.cell? ⟨p,0,none⟩=some (.int .i64 s.1):=h.head.cell 0
 have c1:w.cell? ⟨p,1,none⟩=some (.int .i64 s.2):=h.head.cell 1
 have f0:w.frozen? ⟨p,0,none⟩=false:=h.head.frozen 0
 have f1:w.frozen? ⟨p,1,none⟩=false:=h.head.frozen 1
 have H:=Hd h;clear h
 cases hr:rightG lo hi with
 | false =>
  rw [hr] at A;clear hr
  go_enter func246,ntmps246
  go_wp2_with fail;refine A.out.mono ?_;rintro e w1 ⟨rfl,rfl⟩;go_wp2;go_returns
  exact ⟨rfl,HT.out,Ch.refl _ _,rfl⟩
 | true =>
  rw [hr] at A;replace hr:=Hd hr
  go_enter func246,ntmps246
  go_wp2_with fail;refine A.out.mono ?_;rintro e w1 ⟨rfl,rfl⟩;go_wp2;go_returns
  refine ⟨rfl,⟨f,i,?_,H.out.fp,H.out.ok,H.out.i4,hr.out⟩,((Ch.refl _ w).setCell (p:=⟨p,0,none⟩) (fun _=>H.out.fp) _).setCell (p:=⟨p,1,none⟩) (fun _=>H.out.fp) _,by simp⟩
  exact (H.out.head.set 0 _).set 1 _
theorem vnew_any (w:World) (lo hi:Int) (hr:rightG lo hi=true):Calls prog 74 #[.int .i64 lo,.int .i64 hi] w fun e w'=>(∃ p,e=.returned (.tuple #[.pointer (some ⟨p,0,none⟩),.int .i64 0])∧GovAt w' (Plus w w' (fun _=>False)) p (lo,hi))∧Below w.heap.size w w':=by
 have A:=vright_any lo hi w
 rw [hr] at A;replace A:=Hd A;replace hr:=Hd hr
 go_enter func74,ntmps74
 go_wp2_with fail;refine A.out.mono ?_;rintro e w1 ⟨rfl,rfl⟩;go_wp2;go_returns
 exact ⟨⟨w.heap.size,rfl,⟨0,0,0,0,0,0,0,0⟩,0,Blk.at _ _ rfl,.inr ⟨Nat.le_refl _,by simp⟩,⟨by simp [goodF],by simp [goodF],by simp [goodF],by simp [goodF]⟩,by omega,hr.out⟩,(Below.refl _ _).alloc (Nat.le_refl _) _⟩
def Fed (e:Ending):Prop:=∃ a b:Int,e=.returned (.tuple #[.int .i64 a,.int .i64 b])∧0≤a∧a≤100000
theorem vfeed_any (w:World) {s:Int × Int} (h:GovAt w F p s) (busy all:Int):Calls prog 210 #[.pointer (some ⟨p,0,none⟩),.int .i64 busy,.int .i64 all] w fun e w'=>Fed e∧GovAt w' F p s∧Ch F w w':=by
 have HT:=Hd h
 by_cases hbad:busy < 0∨all < busy∨1099511627776 < all
 ·clear h
  rcases (by omega:busy < 0∨(¬ busy < 0∧all < busy)∨(¬ busy < 0∧¬ all < busy∧1099511627776 < all)) with h1 | ⟨h1,h2⟩ | ⟨h1,h2,h3⟩
  all_goals
   clear hbad
   go_enter func210,ntmps210
   go_wp2;go_returns
   exact ⟨⟨0,2,rfl,by omega,by omega⟩,HT.out,Ch.refl _ _⟩
 ·have hg:goodF busy all:=by unfold goodF;omega
  replace hg:=Hd hg
  obtain ⟨h1,h2,h3⟩:¬ busy < 0∧¬ all < busy∧¬ 1099511627776 < all:=by omega
  clear hbad;obtain ⟨f,i,h⟩:=h
  have hr:=rightG_iff h.rt
  have B:=Hd (fun (w':World) (hg:GovAt w' F p s)=>vfreq_any w' hg)
  have H:=Hd h
  have hri:Hid (∀ f,s.1≤f∧f≤s.2→0≤f∧f≤100000):=Hd (fun f h=>by omega)
  have k10:w.cell? ⟨p,10,none⟩=some (.int .i64 i):=h.head.cell 10
  have f10:w.frozen? ⟨p,10,none⟩=false:=h.head.frozen 10
  rcases (by have:=h.i4;omega:i=0∨i=1∨i=2∨i=3) with rfl | rfl | rfl | rfl
  ·have kb:w.cell? ⟨p,2,none⟩=some (.int .i64 f.b0):=h.head.cell 2
   have ka:w.cell? ⟨p,3,none⟩=some (.int .i64 f.a0):=h.head.cell 3
   have fb:w.frozen? ⟨p,2,none⟩=false:=h.head.frozen 2
   have fa:w.frozen? ⟨p,3,none⟩=false:=h.head.frozen 3
   clear h hr
   go_enter func210,ntmps210
   go_wp2
   go_region
   go_wp2_with fail
   have X:GovAt (((w.drew.setCell ⟨p,2,none⟩ (.int .i64 busy)).setCell ⟨p,3,none⟩ (.int .i64 all)).setCell ⟨p,10,none⟩ (.int .i64 1)) F p s:=⟨⟨busy,all,f.b1,f.a1,f.b2,f.a2,f.b3,f.a3⟩,1,((H.out.head.drew.set 2 _).set 3 _).set 10 _,H.out.fp,⟨hg.out,H.out.ok.g1,H.out.ok.g2,H.out.ok.g3⟩,by omega,H.out.rt⟩
   refine (B.out _ X).mono ?_;rintro e w2 ⟨⟨fr,rfl,hfr⟩,hb⟩;have X2:=Hd (X.below hb)
   have hc:Hid (Ch F w w2):=Hd (((((Ch.refl F w).drew.setCell (p:=⟨p,2,none⟩) (fun _=>H.out.fp) _).setCell (p:=⟨p,3,none⟩) (fun _=>H.out.fp) _).setCell (p:=⟨p,10,none⟩) (fun _=>H.out.fp) _).trans (Ch.of_below hb))
   replace hfr:=Hd hfr;clear X hb;go_wp2;go_returns
   exact ⟨⟨_,_,rfl,hri.out _ hfr.out⟩,X2.out,hc.out⟩
  ·have kb:w.cell? ⟨p,4,none⟩=some (.int .i64 f.b1):=h.head.cell 4
   have ka:w.cell? ⟨p,5,none⟩=some (.int .i64 f.a1):=h.head.cell 5
   have fb:w.frozen? ⟨p,4,none⟩=false:=h.head.frozen 4
   have fa:w.frozen? ⟨p,5,none⟩=false:=h.head.frozen 5
   clear h hr
   go_enter func210,ntmps210
   go_wp2
   go_region
   go_wp2_with fail
   have X:GovAt (((w.drew.setCell ⟨p,4,none⟩ (.int .i64 busy)).setCell ⟨p,5,none⟩ (.int .i64 all)).setCell ⟨p,10,none⟩ (.int .i64 2)) F p s:=⟨⟨f.b0,f.a0,busy,all,f.b2,f.a2,f.b3,f.a3⟩,2,((H.out.head.drew.set 4 _).set 5 _).set 10 _,H.out.fp,⟨H.out.ok.g0,hg.out,H.out.ok.g2,H.out.ok.g3⟩,by omega,H.out.rt⟩
   refine (B.out _ X).mono ?_;rintro e w2 ⟨⟨fr,rfl,hfr⟩,hb⟩;have X2:=Hd (X.below hb)
   have hc:Hid (Ch F w w2):=Hd (((((Ch.refl F w).drew.setCell (p:=⟨p,4,none⟩) (fun _=>H.out.fp) _).setCell (p:=⟨p,5,none⟩) (fun _=>H.out.fp) _).setCell (p:=⟨p,10,none⟩) (fun _=>H.out.fp) _).trans (Ch.of_below hb))
   replace hfr:=Hd hfr;clear X hb;go_wp2;go_returns
   exact ⟨⟨_,_,rfl,hri.out _ hfr.out⟩,X2.out,hc.out⟩
  ·have kb:w.cell? ⟨p,6,none⟩=some (.int .i64 f.b2):=h.head.cell 6
   have ka:w.cell? ⟨p,7,none⟩=some (.int .i64 f.a2):=h.head.cell 7
   have fb:w.frozen? ⟨p,6,none⟩=false:=h.head.frozen 6
   have fa:w.frozen? ⟨p,7,none⟩=false:=h.head.frozen 7
   clear h hr
   go_enter func210,ntmps210
   go_wp2
   go_region
   go_wp2_with fail
   have X:GovAt (((w.drew.setCell ⟨p,6,none⟩ (.int .i64 busy)).setCell ⟨p,7,none⟩ (.int .i64 all)).setCell ⟨p,10,none⟩ (.int .i64 3)) F p s:=⟨⟨f.b0,f.a0,f.b1,f.a1,busy,all,f.b3,f.a3⟩,3,((H.out.head.drew.set 6 _).set 7 _).set 10 _,H.out.fp,⟨H.out.ok.g0,H.out.ok.g1,hg.out,H.out.ok.g3⟩,by omega,H.out.rt⟩
   refine (B.out _ X).mono ?_;rintro e w2 ⟨⟨fr,rfl,hfr⟩,hb⟩;have X2:=Hd (X.below hb)
   have hc:Hid (Ch F w w2):=Hd (((((Ch.refl F w).drew.setCell (p:=⟨p,6,none⟩) (fun _=>H.out.fp) _).setCell (p:=⟨p,7,none⟩) (fun _=>H.out.fp) _).setCell (p:=⟨p,10,none⟩) (fun _=>H.out.fp) _).trans (Ch.of_below hb))
   replace hfr:=Hd hfr;clear X hb;go_wp2;go_returns
   exact ⟨⟨_,_,rfl,hri.out _ hfr.out⟩,X2.out,hc.out⟩
  ·have kb:w.cell? ⟨p,8,none⟩=some (.int .i64 f.b3):=h.head.cell 8
   have ka:w.cell? ⟨p,9,none⟩=some (.int .i64 f.a3):=h.head.cell 9
   have fb:w.frozen? ⟨p,8,none⟩=false:=h.head.frozen 8
   have fa:w.frozen? ⟨p,9,none⟩=false:=h.head.frozen 9
   clear h hr
   go_enter func210,ntmps210
   go_wp2
   go_region
   go_wp2_with fail
   have X:GovAt (((w.drew.setCell ⟨p,8,none⟩ (.int .i64 busy)).setCell ⟨p,9,none⟩ (.int .i64 all)).setCell ⟨p,10,none⟩ (.int .i64 0)) F p s:=⟨⟨f.b0,f.a0,f.b1,f.a1,f.b2,f.a2,busy,all⟩,0,((H.out.head.drew.set 8 _).set 9 _).set 10 _,H.out.fp,⟨H.out.ok.g0,H.out.ok.g1,H.out.ok.g2,hg.out⟩,by omega,H.out.rt⟩
   refine (B.out _ X).mono ?_;rintro e w2 ⟨⟨fr,rfl,hfr⟩,hb⟩;have X2:=Hd (X.below hb)
   have hc:Hid (Ch F w w2):=Hd (((((Ch.refl F w).drew.setCell (p:=⟨p,8,none⟩) (fun _=>H.out.fp) _).setCell (p:=⟨p,9,none⟩) (fun _=>H.out.fp) _).setCell (p:=⟨p,10,none⟩) (fun _=>H.out.fp) _).trans (Ch.of_below hb))
   replace hfr:=Hd hfr;clear X hb;go_wp2;go_returns
   exact ⟨⟨_,_,rfl,hri.out _ hfr.out⟩,X2.out,hc.out⟩
end
section
open Go.Proofs.YtiocbpabbjgkhaaGreatDoor.NumD
structure MeterAtQ (w:World) (F:Nat→Prop) (p q n:Nat) (l:List Int):Prop where
 head:Blk w p #[.slice (some ⟨q,0,none⟩) n n] 242
 row:Blk w q (l.map (Value.int .i64)).toArray 352
 len:l.length=n*10
 ok:∀ x∈l,In64 x
 fp:F p
 fq:F q
 ne:p≠q
 n64:n≤64
def MeterAt (w:World) (F:Nat→Prop) (p n:Nat):Prop:=∃ q l,MeterAtQ w F p q n l
theorem MeterAt.ch {F G:Nat→Prop} {p n:Nat} (h:MeterAt w F p n) (hc:Ch G w w') (hd:∀ b,F b→¬ G b):MeterAt w' F p n:=by
 obtain ⟨q,l,h⟩:=h
 exact ⟨q,l,h.head.ch hc (hd _ h.fp),h.row.ch hc (hd _ h.fq),h.len,h.ok,h.fp,h.fq,h.ne,h.n64⟩
theorem MeterAt.mono {F G:Nat→Prop} {p n:Nat} (h:MeterAt w F p n) (hd:∀ b,F b→G b):MeterAt w G p n:=by
 obtain ⟨q,l,h⟩:=h
 exact ⟨q,l,h.head,h.row,h.len,h.ok,hd _ h.fp,hd _ h.fq,h.ne,h.n64⟩
theorem MeterAt.below {p n:Nat} (h:MeterAt w F p n) (hb:Below w.heap.size w w'):MeterAt w' F p n:=h.ch (Ch.off hb) (fun _ _ h=>h)
theorem MeterAtQ.cell {p q n:Nat} {l:List Int} (h:MeterAtQ w F p q n l) {i:Nat} (hi:i < n*10):w.cell? ⟨q,i,none⟩=some (.int .i64 (l.getD i 0))∧In64 (l.getD i 0):=by
 have h1:l[i]? = some (l.getD i 0):=getD_some (by rw [h.len];exact hi)
 exact ⟨by rw [h.row.cell,List.getElem?_toArray,List.getElem?_map,h1];rfl,h.ok _ (List.mem_of_getElem? h1)⟩
theorem MeterAtQ.set {p q n:Nat} {l:List Int} (h:MeterAtQ w F p q n l) (i:Nat) (v:Int) (hv:In64 v):MeterAtQ (w.setCell ⟨q,i,none⟩ (.int .i64 v)) F p q n (l.set i v):=by
 refine ⟨h.head.far (p:=⟨q,i,none⟩) (Ne.symm h.ne) _,?_,by simpa using h.len,fun x hx=>(List.mem_or_eq_of_mem_set hx).elim (h.ok x) (fun e=>e ▸ hv),h.fp,h.fq,h.ne,h.n64⟩
 have:=h.row.set i (.int .i64 v)
 rw [List.setIfInBounds_toArray,← List.map_set] at this
 exact this
theorem wrap64_in (x:Int):In64 (wrap64 x):=by unfold In64 wrap64;omega
def Told (e:Ending):Prop:=∃ n:Int,e=.returned (.int .i64 n)
theorem Told.of (n:Int):Told (.returned (.int .i64 n)):=⟨n,rfl⟩
theorem mfind_no (w:World) {p n:Nat} (h:MeterAt w F p n) (cpu:Int) (hm:mayF n cpu=3):Calls prog 277 #[.pointer (some ⟨p,0,none⟩),.int .i64 cpu] w fun e w'=>e=.returned (.tuple #[.pointer none,.int .i64 3])∧w=w':=by
 obtain ⟨q,l,h⟩:=h
 have c0:w.cell? ⟨p,0,none⟩=some (.slice (some ⟨q,0,none⟩) n n):=h.head.cell 0
 clear h
 rcases may_cases n cpu with ⟨h1,e⟩ | ⟨h1,h2,e⟩ | ⟨i,rfl,h2,e⟩
 ·clear hm e
  go_enter func277,ntmps277
  go_wp2;go_returns
  exact ⟨rfl,rfl⟩
 ·clear hm e
  go_enter func277,ntmps277
  go_wp2;go_returns
  exact ⟨rfl,rfl⟩
 ·rw [e] at hm;cases hm
theorem mfind_yes (w:World) {p q n:Nat} {l:List Int} (h:MeterAtQ w F p q n l) (i:Nat) (hi:i < n):Calls prog 277 #[.pointer (some ⟨p,0,none⟩),.int .i64 i] w fun e w'=>e=.returned (.tuple #[.pointer (some ⟨q,i*10,none⟩),.int .i64 0])∧w=w':=by
 have c0:w.cell? ⟨p,0,none⟩=some (.slice (some ⟨q,0,none⟩) n n):=h.head.cell 0
 clear h
 go_enter func277,ntmps277
 go_wp2;go_returns
 exact ⟨rfl,rfl⟩
def withinG (n:Int):Bool:=decide (0≤n) && decide (n≤2147483648)
theorem mwithin_any (n:Int) (w:World):Calls prog 325 #[.int .i64 n] w fun e w'=>e=.returned (.bool (withinG n))∧w=w':=by
 unfold withinG
 by_cases h0:0≤n
 ·rw [decide_eq_true h0,Bool.true_and]
  go_enter func325,ntmps325
  go_wp2;go_returns
  exact ⟨rfl,rfl⟩
 ·have e:decide (0≤n)=false:=by simpa using h0
  rw [e];clear e
  go_enter func325,ntmps325
  go_wp2;go_returns
  exact ⟨rfl,rfl⟩
theorem mpay_any (w:World) {p q n:Nat} {l:List Int} (h:MeterAtQ w F p q n l) (i j:Nat) (hi:i < n) (hj:j < 9) (ticks power:Int):Calls prog 278 #[.pointer (some ⟨q,i*10,none⟩),.pointer (some ⟨q,i*10+j,none⟩),.int .i64 ticks,.int .i64 power] w fun e w'=>Told e∧MeterAt w' F p n∧Ch F w w':=by
 have HT:Hid (MeterAt w F p n):=Hd ⟨q,l,h⟩
 have A:=Hd (mwithin_any ticks w);have B:=Hd (mwithin_any power w);generalize withinG ticks=b1 at *;generalize withinG power=b2 at *
 cases b1 with
 | false =>
  clear h
  go_enter func278,ntmps278
  go_wp2_with fail;refine A.out.mono ?_;rintro e w1 ⟨rfl,rfl⟩;go_wp2;go_returns
  exact ⟨Told.of _,HT.out,Ch.refl _ _⟩
 | true =>
  cases b2 with
  | false =>
   clear h
   go_enter func278,ntmps278
   go_wp2_with fail;refine A.out.mono ?_;rintro e w1 ⟨rfl,rfl⟩;go_wp2_with fail;refine B.out.mono ?_;rintro e w1 ⟨rfl,rfl⟩;go_wp2;go_returns
   exact ⟨Told.of _,HT.out,Ch.refl _ _⟩
  | true =>
   obtain ⟨z,hz⟩:∃ z,wrap64 (ticks*power)=z:=⟨_,rfl⟩
   have hzi:In64 z:=hz ▸ wrap64_in _
   obtain ⟨k9,in9⟩:=h.cell (i:=i*10+9) (by omega)
   obtain ⟨kj,inj⟩:=h.cell (i:=i*10+j) (by omega)
   have f9:w.frozen? ⟨q,i*10+9,none⟩=false:=h.row.frozen _
   have fj:w.frozen? ⟨q,i*10+j,none⟩=false:=h.row.frozen _
   have C:=Hd (add_any (l.getD (i*10+9) 0) z in9 hzi w)
   have H:=Hd h
   have hs1:Hid (In64 (sumF (l.getD (i*10+9) 0+z)).1):=Hd (by unfold sumF;split <;> (unfold In64;omega))
   have hne:j≠9:=by omega
   have hdis:i*10+j≠i*10+9:=by omega
   clear h in9 inj hzi
   obtain ⟨u,hu⟩:∃ u,u=sumF (l.getD (i*10+9) 0+z):=⟨_,rfl⟩
   rw [← hu] at C hs1;clear hu;generalize l.getD (i*10+9) 0=x9 at *;generalize l.getD (i*10+j) 0=xj at *;obtain ⟨sm,why⟩:=u;dsimp only at C hs1
   by_cases hw:why=0
   ·subst hw
    by_cases hb:4611686018427387904 < sm
    ·go_enter func278,ntmps278
     go_wp2_with fail;refine A.out.mono ?_;rintro e w1 ⟨rfl,rfl⟩;go_wp2_with fail;refine B.out.mono ?_;rintro e w1 ⟨rfl,rfl⟩;go_wp2_with fail;refine C.out.mono ?_;rintro e w1 ⟨rfl,rfl⟩;go_wp2;go_returns
     exact ⟨Told.of _,HT.out,Ch.refl _ _⟩
    ·go_enter func278,ntmps278
     go_wp2_with fail;refine A.out.mono ?_;rintro e w1 ⟨rfl,rfl⟩;go_wp2_with fail;refine B.out.mono ?_;rintro e w1 ⟨rfl,rfl⟩;go_wp2_with fail;refine C.out.mono ?_;rintro e w1 ⟨rfl,rfl⟩;go_wp2;go_returns
     have h1:=H.out.set (i*10+9) sm hs1.out
     have h2:=h1.set (i*10+j) _ (wrap64_in (xj+ticks))
     exact ⟨Told.of _,⟨q,_,h2⟩,((Ch.refl F w).setCell (p:=⟨q,i*10+9,none⟩) (fun _=>H.out.fq) _).setCell (p:=⟨q,i*10+j,none⟩) (fun _=>H.out.fq) _⟩
   ·have hw':(why != 0)=true:=by simpa using hw
    clear hw
    go_enter func278,ntmps278
    go_wp2_with fail;refine A.out.mono ?_;rintro e w1 ⟨rfl,rfl⟩;go_wp2_with fail;refine B.out.mono ?_;rintro e w1 ⟨rfl,rfl⟩;go_wp2_with fail;refine C.out.mono ?_;rintro e w1 ⟨rfl,rfl⟩;go_wp2;go_returns
    exact ⟨Told.of _,HT.out,Ch.refl _ _⟩
theorem mwork_any (w:World) {p n:Nat} (h:MeterAt w F p n) (cpu ticks power:Int):Calls prog 212 #[.pointer (some ⟨p,0,none⟩),.int .i64 cpu,.int .i64 ticks,.int .i64 power] w fun e w'=>Told e∧MeterAt w' F p n∧Ch F w w':=by
 have HT:=Hd h
 by_cases hm:mayF n cpu=0
 ·obtain ⟨i,rfl,hi⟩:=may_yes hm
  obtain ⟨q,l,h⟩:=h;have A:=Hd (mfind_yes w h i hi)
  have B:=Hd (mpay_any w h i 0 hi (by omega) ticks power)
  clear h hm
  go_enter func212,ntmps212
  go_wp2_with fail;refine A.out.mono ?_;rintro e w1 ⟨rfl,rfl⟩;go_wp2_with fail;refine B.out.mono ?_;rintro e w1 ⟨⟨r,rfl⟩,h1⟩;replace h1:=Hd h1;go_wp2;go_returns
  exact ⟨Told.of _,h1.out⟩
 ·have A:=Hd (mfind_no w h cpu (may_no hm))
  clear h hm
  go_enter func212,ntmps212
  go_wp2_with fail;refine A.out.mono ?_;rintro e w1 ⟨rfl,rfl⟩;go_wp2;go_returns
  exact ⟨Told.of _,HT.out,Ch.refl _ _⟩
theorem mrest_any (w:World) {p n:Nat} (h:MeterAt w F p n) (cpu way ticks power:Int):Calls prog 211 #[.pointer (some ⟨p,0,none⟩),.int .i64 cpu,.int .i64 way,.int .i64 ticks,.int .i64 power] w fun e w'=>Told e∧MeterAt w' F p n∧Ch F w w':=by
 have HT:=Hd h
 by_cases hm:mayF n cpu=0
 ·obtain ⟨i,rfl,hi⟩:=may_yes hm
  obtain ⟨q,l,h⟩:=h;have A:=Hd (mfind_yes w h i hi)
  rcases may_cases 8 way with ⟨h1,-⟩ | ⟨h1,h2,-⟩ | ⟨j,rfl,h2,-⟩
  ·clear h hm
   go_enter func211,ntmps211
   go_wp2_with fail;refine A.out.mono ?_;rintro e w1 ⟨rfl,rfl⟩;go_wp2;go_returns
   exact ⟨Told.of _,HT.out,Ch.refl _ _⟩
  ·clear h hm
   go_enter func211,ntmps211
   go_wp2_with fail;refine A.out.mono ?_;rintro e w1 ⟨rfl,rfl⟩;go_wp2;go_returns
   exact ⟨Told.of _,HT.out,Ch.refl _ _⟩
  ·have B:=mpay_any w h i (1+j) hi (by omega) ticks power
   rw [← Nat.add_assoc] at B;replace B:=Hd B;clear h hm
   go_enter func211,ntmps211
   go_wp2_with fail;refine A.out.mono ?_;rintro e w1 ⟨rfl,rfl⟩;go_wp2_with fail;refine B.out.mono ?_;rintro e w1 ⟨⟨r,rfl⟩,h1⟩;replace h1:=Hd h1;go_wp2;go_returns
   exact ⟨Told.of _,h1.out⟩
 ·have A:=Hd (mfind_no w h cpu (may_no hm))
  clear h hm
  go_enter func211,ntmps211
  go_wp2_with fail;refine A.out.mono ?_;rintro e w1 ⟨rfl,rfl⟩;go_wp2;go_returns
  exact ⟨Told.of _,HT.out,Ch.refl _ _⟩
theorem mcells (n:Nat):(madeCells #[Value.int .i64 0,.int .i64 0,.int .i64 0,.int .i64 0,.int .i64 0,.int .i64 0,.int .i64 0,.int .i64 0,.int .i64 0,.int .i64 0] (n*10))=((List.replicate (n*10) (0:Int)).map (Value.int .i64)).toArray:=by
 apply Array.ext_getElem?
 intro k
 by_cases hk:k < n*10
 ·simp only [madeCells,Array.getElem?_map,Array.getElem?_range,hk,if_true,Option.map_some,List.getElem?_toArray,List.getElem?_map,List.getElem?_replicate]
  have hm:k % 10 < 10:=Nat.mod_lt _ (by omega)
  generalize k % 10=r at *
  rcases (by omega:r=0∨r=1∨r=2∨r=3∨r=4∨r=5∨r=6∨r=7∨r=8∨r=9) with rfl | rfl | rfl | rfl | rfl | rfl | rfl | rfl | rfl | rfl <;> rfl
 ·rw [Array.getElem?_eq_none (by simp [madeCells];omega),Array.getElem?_eq_none (by simp;omega)]
theorem meterZero:(prog.info? 352).map (fun i=>(i.zero,i.size,i.bytes))=some (some (.agg #[.int .i64 0,.int .i64 0,.int .i64 0,.int .i64 0,.int .i64 0,.int .i64 0,.int .i64 0,.int .i64 0,.int .i64 0,.int .i64 0]),10,80):=by kernel_rfl
theorem mnew_any (w:World) (cpus:Nat) (h1:1≤cpus) (h64:cpus≤64):Calls prog 72 #[.int .i64 cpus] w fun e w'=>(∃ p,e=.returned (.tuple #[.pointer (some ⟨p,0,none⟩),.int .i64 0])∧MeterAt w' (Plus w w' (fun _=>False)) p cpus)∧Below w.heap.size w w':=by
 have hmk:=fun W=>make_any meterZero underlying240 (by omega) cpus (by omega) W
 go_enter func72,ntmps72
 go_wp2;go_returns
 refine ⟨⟨w.heap.size+1,rfl,w.heap.size,List.replicate (cpus*10) 0,Blk.at _ _ (by simp),?_,by simp,fun x hx=>by have:=List.eq_of_mem_replicate hx;subst this;exact ⟨by omega,by omega⟩,.inr ⟨by omega,by simp⟩,.inr ⟨Nat.le_refl _,by simp;omega⟩,by omega,h64⟩,((Below.refl _ _).alloc (Nat.le_refl _) _).alloc (by simp) _⟩
 rw [← mcells]
 exact (Blk.new _ _ _).alloc _
end
structure PoolAt (w:World) (F:Nat→Prop) (p:Nat) (l:List Int):Prop where
 head:Blk w p (l.map (Value.int .u8)++[Value.int .i64 12]).toArray 294
 fp:F p
 len:l.length=12
 ok:∀ x∈l,0≤x∧x≤255
theorem PoolAt.ch {F G:Nat→Prop} {l:List Int} (h:PoolAt w F p l) (hc:Ch G w w') (hd:∀ b,F b→¬ G b):PoolAt w' F p l:=⟨h.head.ch hc (hd _ h.fp),h.fp,h.len,h.ok⟩
theorem PoolAt.mono {F G:Nat→Prop} {l:List Int} (h:PoolAt w F p l) (hd:∀ b,F b→G b):PoolAt w G p l:=⟨h.head,hd _ h.fp,h.len,h.ok⟩
theorem PoolAt.below {l:List Int} (h:PoolAt w F p l) (hb:Below w.heap.size w w'):PoolAt w' F p l:=h.ch (Ch.off hb) (fun _ _ h=>h)
theorem PoolAt.cell {l:List Int} (h:PoolAt w F p l) {i:Nat} (hi:i < 12):w.cell? ⟨p,i,none⟩=some (.int .u8 (l.getD i 0)):=by
 have hi2:i < l.length:=by rw [h.len];exact hi
 rw [h.head.cell,List.getElem?_toArray,List.getElem?_append_left (by rw [List.length_map];exact hi2),List.getElem?_map,getD_some (d:=0) hi2]
 rfl
theorem PoolAt.cc {l:List Int} (h:PoolAt w F p l):w.cell? ⟨p,12,none⟩=some (.int .i64 12):=by
 rw [h.head.cell,List.getElem?_toArray,List.getElem?_append_right (by rw [List.length_map,h.len];omega),List.length_map,h.len]
 rfl
theorem PoolAt.bound {l:List Int} (h:PoolAt w F p l) {i:Nat} (hi:i < 12):0≤l.getD i 0∧l.getD i 0≤255:=by
 have hi2:i < l.length:=by rw [h.len];exact hi
 exact h.ok _ (List.mem_of_getElem? (getD_some (d:=0) hi2))
theorem PoolAt.set {l:List Int} (h:PoolAt w F p l) {i:Nat} (hi:i < 12) (v:Int) (hv:0≤v∧v≤255):PoolAt (w.setCell ⟨p,i,none⟩ (.int .u8 v)) F p (l.set i v):=by
 refine ⟨?_,h.fp,by simpa using h.len,fun x hx=>(List.mem_or_eq_of_mem_set hx).elim (h.ok x) (fun e=>e ▸ hv)⟩
 have:=h.head.set i (.int .u8 v)
 rw [List.setIfInBounds_toArray,List.set_append_left _ _ (by rw [List.length_map,h.len];exact hi),← List.map_set] at this
 exact this
def partP (x:Int):Bool:=decide (x≠0) && decide (x≠255)
def emptyP (x:Int):Bool:=decide (x=0)
theorem part_any (x:Int) (w:World):Calls prog 331 #[.int .u8 x] w fun e w'=>e=.returned (.bool (partP x))∧w=w':=by
 unfold partP
 by_cases h0:x=0
 ·subst h0
  go_enter func331,ntmps331
  go_wp2;go_returns
  exact ⟨rfl,rfl⟩
 ·have h0':(x != 0)=true:=by simpa using h0
  rw [decide_eq_true h0,Bool.true_and];clear h0
  go_enter func331,ntmps331
  go_wp2;go_returns
  refine ⟨?_,rfl⟩
  show Ending.returned (.bool (x != 255))=_
  congr 2
  rw [Bool.eq_iff_iff]
  simp
theorem empty_any (x:Int) (w:World):Calls prog 332 #[.int .u8 x] w fun e w'=>e=.returned (.bool (emptyP x))∧w=w':=by
 unfold emptyP
 go_enter func332,ntmps332
 go_wp2;go_returns
 refine ⟨?_,rfl⟩
 show Ending.returned (.bool (x == 0))=_
 congr 2
def findP (is:Int→Bool):List Int→Int
 | []=>-1
 | x::t=>if is x then 0 else if findP is t < 0 then -1 else findP is t+1
theorem findP_at {is:Int→Bool}:∀ {l:List Int} {i:Nat},i < l.length→(∀ j,j < i→is (l.getD j 0)=false)→is (l.getD i 0)=true→findP is l=i
 | [],i,h,_,_=>by simp at h
 | x::t,0,_,_,h=>by have h':is x=true:=h;simp [findP,h']
 | x::t,i+1,h,hj,hi=>by
  have h0:is x=false:=hj 0 (by omega)
  have:=findP_at (l:=t) (i:=i) (by simpa using h) (fun j hj'=>by have:=hj (j+1) (by omega);simpa using this) (by simpa using hi)
  simp only [findP,h0,this]
  split
  ·rename_i h;cases h
  ·split
   ·omega
   ·omega
theorem findP_none {is:Int→Bool}:∀ {l:List Int},(∀ j,j < l.length→is (l.getD j 0)=false)→findP is l=-1
 | [],_=>rfl
 | x::t,h=>by
  have h0:is x=false:=h 0 (by simp)
  have:=findP_none (l:=t) (fun j hj=>by have:=h (j+1) (by simpa using hj);simpa using this)
  simp [findP,h0,this]
theorem findP_range {is:Int→Bool}:∀ {l:List Int},findP is l=-1∨∃ i:Nat,findP is l=i∧i < l.length
 | []=>.inl rfl
 | x::t=>by
  by_cases h:is x=true
  ·exact .inr ⟨0,by simp [findP,h],by simp⟩
  ·rcases findP_range (is:=is) (l:=t) with e | ⟨i,e,hi⟩
   ·exact .inl (by simp [findP,h,e])
   ·refine .inr ⟨i+1,?_,by simpa using hi⟩
    simp only [findP,h,e]
    split
    ·rename_i h;cases h
    ·split <;> omega
theorem pfind_any (is:Int→Bool) (fn:FuncId) (hfn:fn=331∧is=partP∨fn=332∧is=emptyP) (w:World) {l:List Int} (h:PoolAt w F p l):Calls prog 330 #[.pointer (some ⟨p,0,none⟩),.func (.func fn) #[] #[]] w fun e w'=>e=.returned (.int .i64 (findP is l))∧w=w':=by
 have HT:=Hd h;have cc:=h.cc
 have hA:Hid (∀ x,Calls prog fn #[.int .u8 x] w fun e w'=>e=.returned (.bool (is x))∧w=w'):=Hd (fun x=>by
  rcases hfn with ⟨rfl,rfl⟩ | ⟨rfl,rfl⟩
  ·exact part_any x w
  ·exact empty_any x w)
 have hF1:Hid ((∀ j,j < 12→is (l.getD j 0)=false)→findP is l=-1):=Hd (fun hh=>findP_none (fun j hj=>hh j (by rw [h.len] at hj;exact hj)))
 have hF2:Hid (∀ i:Nat,i < 12→(∀ j,j < i→is (l.getD j 0)=false)→is (l.getD i 0)=true→findP is l=i):=Hd (fun i hi h1 h2=>findP_at (by rw [h.len];exact hi) h1 h2)
 generalize findP is l=R at *;clear h
 rcases hfn with ⟨rfl,-⟩ | ⟨rfl,-⟩
 all_goals
  go_enter func330,ntmps330
  go_wp2
  go_loop [10,5] (fun iv _=>∃ k:Nat,iv=.int .i64 k∧k≤12∧Hid (∀ j,j < k→is (l.getD j 0)=false)) (fun iv _=>12 - (intOf iv).toNat)
  case atStart=>exact ⟨0,rfl,by omega,Hd (fun j hj=>by omega)⟩
  case round =>
   obtain ⟨k,rfl,hk,HE⟩:=hrel
   by_cases hlt:k < 12
   ·have ck:=HT.out.cell hlt
    have A:=Hd (hA.out (l.getD k 0))
    have h1:=Hd (hF2.out k hlt HE.out)
    obtain ⟨x,hx⟩:∃ x,x=l.getD k 0:=⟨_,rfl⟩
    rw [← hx] at ck A h1;replace hx:=Hd hx
    obtain ⟨b,hb⟩:∃ b,b=is x:=⟨_,rfl⟩
    rw [← hb] at A h1;replace hb:=Hd hb
    cases b with
    | true =>
     go_wp2_with fail;refine A.out.mono ?_;rintro e w1 ⟨rfl,rfl⟩;go_wp2;go_returns;rw [h1.out (by first | rfl | trivial)]
     exact ⟨rfl,rfl⟩
    | false =>
     go_wp2_with fail;refine A.out.mono ?_;rintro e w1 ⟨rfl,rfl⟩;go_wp2
     go_round
     case rel =>
      refine ⟨k+1,by go_num,hlt,Hd (fun j hj=>?_)⟩
      by_cases e:j < k
      ·exact HE.out j e
      ·rw [show j=k by omega,← hx.out,← hb.out]
     case measure=>simp [intOf];omega
   ·have:k=12:=by omega
    subst this;go_wp2;go_returns;rw [hF1.out HE.out]
    exact ⟨rfl,rfl⟩
theorem bits_u8 (op:BinOp) (a b:Int):0≤bits op .u8 a b∧bits op .u8 a b≤255:=by
 have h:∀ n:Int,0≤IntKind.u8.wrap n∧IntKind.u8.wrap n≤255:=fun n=>by
  simp only [IntKind.wrap,IntKind.bits,IntKind.signed]
  simp
  omega
 unfold bits
 exact h _
def freeBit (x:Int):Nat:=Lib.trailingZeros8 (bits .xor .u8 IntKind.u8.max x).toNat
theorem ctz8_le:∀ n:Fin 256,Lib.trailingZeros8 n.val≤8:=by decide +kernel
theorem freeBit_le (x:Int):freeBit x≤8:=by
 have h:=bits_u8 .xor IntKind.u8.max x
 exact ctz8_le ⟨(bits .xor .u8 IntKind.u8.max x).toNat,by omega⟩
def poolSet (l:List Int) (i:Nat):List Int:=l.set i (bits .or .u8 (l.getD i 0) (2 ^ freeBit (l.getD i 0) % 256))
def poolPage (l:List Int):Int:=if findP partP l < 0 then findP emptyP l else findP partP l
def poolTake (l:List Int):List Int × Int × Int :=
 if poolPage l < 0 then (l,0,5) else (poolSet l (poolPage l).toNat,(poolPage l)*8+freeBit (l.getD (poolPage l).toNat 0)+1,0)
theorem ptake_any (w:World) {l:List Int} (h:PoolAt w F p l):Calls prog 292 #[.pointer (some ⟨p,0,none⟩)] w fun e w'=>e=.returned (.tuple #[.int .i64 (poolTake l).2.1,.int .i64 (poolTake l).2.2])∧PoolAt w' F p (poolTake l).1∧Ch F w w'∧w'.heap.size=w.heap.size:=by
 have HT:=Hd h
 have A:=pfind_any partP 331 (.inl ⟨rfl,rfl⟩) w h
 have A2:=pfind_any emptyP 332 (.inr ⟨rfl,rfl⟩) w h
 have hlen:=h.len;unfold poolTake
 have fin:∀ i:Nat,i < 12→poolPage l=i→((if poolPage l < 0 then (l,(0:Int),(5:Int)) else (poolSet l (poolPage l).toNat,(poolPage l)*8+freeBit (l.getD (poolPage l).toNat 0)+1,0))=(l.set i (bits .or .u8 (l.getD i 0) (2 ^ freeBit (l.getD i 0) % 256)),(i:Int)*8+freeBit (l.getD i 0)+1,0)):=fun i hi e=>by
  rw [e,if_neg (by omega),Int.toNat_natCast]
  rfl
 have go:∀ i:Nat,i < 12→∃ x,x=l.getD i 0:=fun i hi=>⟨_,rfl⟩
 rcases findP_range (is:=partP) (l:=l) with e | ⟨i,e,hi⟩
 ·rcases findP_range (is:=emptyP) (l:=l) with e2 | ⟨i,e2,hi⟩
  ·have hp:poolPage l=-1:=by unfold poolPage;rw [e,if_pos (by omega),e2]
   rw [hp,if_pos (by omega)];rw [e] at A;rw [e2] at A2;replace A:=Hd A;replace A2:=Hd A2;clear h e e2 fin go hp hlen
   go_enter func292,ntmps292
   go_wp2_with fail;refine A.out.mono ?_;rintro e w1 ⟨rfl,rfl⟩;go_wp2_with fail;refine A2.out.mono ?_;rintro e w1 ⟨rfl,rfl⟩;go_wp2;go_returns
   exact ⟨rfl,HT.out,Ch.refl _ _,rfl⟩
  ·rw [hlen] at hi
   have hp:poolPage l=i:=by unfold poolPage;rw [e,if_pos (by omega),e2]
   rw [fin i hi hp];rw [e] at A;rw [e2] at A2;replace A:=Hd A;replace A2:=Hd A2
   have ci:=h.cell hi
   have fi:w.frozen? ⟨p,i,none⟩=false:=h.head.frozen _
   generalize l.getD i 0=x at *
   have B:=Hd (bits_TrailingZeros8 (bits .xor .u8 IntKind.u8.max x) w (bits_u8 _ _ _).1 (bits_u8 _ _ _).2)
   have hk:=freeBit_le x
   unfold freeBit at *
   generalize Lib.trailingZeros8 (bits .xor .u8 IntKind.u8.max x).toNat=k at *;clear h e e2 fin go hp hlen
   go_enter func292,ntmps292
   go_wp2_with fail;refine A.out.mono ?_;rintro e w1 ⟨rfl,rfl⟩;go_wp2_with fail;refine A2.out.mono ?_;rintro e w1 ⟨rfl,rfl⟩;go_wp2_with fail;refine B.out.mono ?_;rintro e w1 ⟨rfl,rfl⟩;go_wp2
   go_region
   go_wp2;go_returns
   exact ⟨rfl,(HT.out.set hi _ (bits_u8 .or x (2 ^ k % 256))).ch (Ch.refl (fun _=>False) _).drew (fun _ _ h=>h),((Ch.refl F _).setCell (p:=⟨p,i,none⟩) (fun _=>HT.out.fp) _).drew,by simp⟩
 ·rw [hlen] at hi
  have hp:poolPage l=i:=by unfold poolPage;rw [e,if_neg (by omega)]
  rw [fin i hi hp];rw [e] at A;replace A:=Hd A
  have ci:=h.cell hi
  have fi:w.frozen? ⟨p,i,none⟩=false:=h.head.frozen _
  generalize l.getD i 0=x at *
  have B:=Hd (bits_TrailingZeros8 (bits .xor .u8 IntKind.u8.max x) w (bits_u8 _ _ _).1 (bits_u8 _ _ _).2)
  have hk:=freeBit_le x
  unfold freeBit at *
  generalize Lib.trailingZeros8 (bits .xor .u8 IntKind.u8.max x).toNat=k at *;clear h e fin go hp hlen A2
  go_enter func292,ntmps292
  go_wp2_with fail;refine A.out.mono ?_;rintro e w1 ⟨rfl,rfl⟩;go_wp2_with fail;refine B.out.mono ?_;rintro e w1 ⟨rfl,rfl⟩;go_wp2
  go_region
  go_wp2;go_returns
  exact ⟨rfl,(HT.out.set hi _ (bits_u8 .or x (2 ^ k % 256))).ch (Ch.refl (fun _=>False) _).drew (fun _ _ h=>h),((Ch.refl F _).setCell (p:=⟨p,i,none⟩) (fun _=>HT.out.fp) _).drew,by simp⟩
def idIn (id:Int):Bool:=decide (1≤id∧id≤96)
def bitOf (id:Int):Int:=2 ^ ((id - 1) % 8).toNat % 256
def pageOf (id:Int):Nat:=((id - 1) / 8).toNat
theorem pbit_any (w:World) {l:List Int} (h:PoolAt w F p l) (id:Int):Calls prog 334 #[.pointer (some ⟨p,0,none⟩),.int .i64 id] w fun e w'=>e=.returned (.tuple #[.int .i64 (if idIn id then (pageOf id:Nat) else 0),.int .u8 (if idIn id then bitOf id else 0)])∧∃ n,w'=w.drewN n:=by
 have cc:=h.cc;clear h
 by_cases hin:1≤id∧id≤96
 ·have e:idIn id=true:=by unfold idIn;exact decide_eq_true hin
  rw [e,if_pos rfl,if_pos rfl];obtain ⟨h1,h2⟩:=hin
  obtain ⟨d,rfl⟩:∃ d:Nat,id=(d:Int)+1:=⟨(id - 1).toNat,by omega⟩
  clear e
  have q1:((d:Int)).tdiv 8=((d / 8:Nat):Int):=by rw [Int.tdiv_eq_ediv_of_nonneg (by omega)];omega
  have q2:((d:Int)).tmod 8=((d % 8:Nat):Int):=by rw [Int.tmod_eq_emod_of_nonneg (by omega)];omega
  have hm:d % 8 < 8:=Nat.mod_lt _ (by omega)
  have e1:pageOf ((d:Int)+1)=d / 8:=by unfold pageOf;omega
  have e2:bitOf ((d:Int)+1)=2 ^ (d % 8) % 256:=by unfold bitOf;congr 2;omega
  rw [e1,e2];clear e1 e2
  go_enter func334,ntmps334
  go_wp2;go_quiet (fail);go_wp2;go_returns
  exact ⟨rfl,_,rfl⟩
 ·have e:idIn id=false:=by unfold idIn;exact decide_eq_false hin
  rw [e]
  rcases (by omega:id < 1∨(1≤id∧96 < id)) with h1 | ⟨h1,h2⟩
  all_goals
   clear hin e
   go_enter func334,ntmps334
   go_wp2;go_returns
   exact ⟨rfl,0,rfl⟩
def poolOut (l:List Int) (id:Int):Bool:=idIn id && decide (bits .and .u8 (l.getD (pageOf id) 0) (bitOf id)≠0)
theorem bitOf_ne {id:Int} (h:idIn id=true):bitOf id≠0∧pageOf id < 12:=by
 unfold idIn at h
 have h:=of_decide_eq_true h
 refine ⟨?_,by unfold pageOf;omega⟩
 unfold bitOf
 have hm:((id - 1) % 8).toNat < 8:=by omega
 generalize ((id - 1) % 8).toNat=r at *
 rcases (by omega:r=0∨r=1∨r=2∨r=3∨r=4∨r=5∨r=6∨r=7) with rfl | rfl | rfl | rfl | rfl | rfl | rfl | rfl <;> decide
theorem pout_any (w:World) {l:List Int} (h:PoolAt w F p l) (id:Int):Calls prog 293 #[.pointer (some ⟨p,0,none⟩),.int .i64 id] w fun e w'=>e=.returned (.bool (poolOut l id))∧∃ n,w'=w.drewN n:=by
 have A:=pbit_any w h id
 unfold poolOut
 cases hin:idIn id with
 | false =>
  rw [hin] at A
  simp only [Bool.false_eq_true,if_false] at A
  replace A:=Hd A;clear h hin
  go_enter func293,ntmps293
  go_wp2_with fail;refine A.out.mono ?_;rintro e w1 ⟨rfl,n,rfl⟩;go_wp2;go_returns
  exact ⟨rfl,_,rfl⟩
 | true =>
  obtain ⟨h1,h2⟩:=bitOf_ne hin
  rw [hin] at A
  simp only [if_true] at A
  have ci:=h.cell h2
  have hb:(bitOf id != 0)=true:=by simpa using h1
  generalize l.getD (pageOf id) 0=x at *;generalize bitOf id=b at *;generalize pageOf id=i at *;replace A:=Hd A
  have hd:Hid (decide (bits .and .u8 x b≠0)=(bits .and .u8 x b != 0)):=Hd (by rw [Bool.eq_iff_iff];simp)
  rw [hd.out];clear h hin h1
  go_enter func293,ntmps293
  go_wp2_with fail;refine A.out.mono ?_;rintro e w1 ⟨rfl,n,rfl⟩;go_wp2;go_returns
  exact ⟨rfl,_,rfl⟩
def poolGive (l:List Int) (id:Int):List Int × Int:=if poolOut l id then (l.set (pageOf id) (bits .andNot .u8 (l.getD (pageOf id) 0) (bitOf id)),0) else (l,4)
theorem pgive_any (w:World) {l:List Int} (h:PoolAt w F p l) (id:Int):Calls prog 296 #[.pointer (some ⟨p,0,none⟩),.int .i64 id] w fun e w'=>e=.returned (.int .i64 (poolGive l id).2)∧PoolAt w' F p (poolGive l id).1∧Ch F w w'∧w'.heap.size=w.heap.size:=by
 have HT:=Hd h;have A:=Hd (pout_any w h id)
 have B:=fun n=>(pbit_any (w.drewN n) (h.below (belowN w n)) id)
 unfold poolGive
 cases ho:poolOut l id with
 | false =>
  rw [ho] at A;clear h B ho
  go_enter func296,ntmps296
  go_wp2_with fail;refine A.out.mono ?_;rintro e w1 ⟨rfl,n,rfl⟩;go_wp2;go_returns
  exact ⟨rfl,HT.out.below (belowN _ _),(Ch.refl _ _).drewN _,rfl⟩
 | true =>
  rw [ho] at A
  have hin:idIn id=true:=by unfold poolOut at ho;cases hh:idIn id <;> simp [hh] at ho ⊢
  obtain ⟨h1,h2⟩:=bitOf_ne hin
  rw [hin] at B
  simp only [if_true] at B ⊢
  have ci:=h.cell h2
  have fi:w.frozen? ⟨p,pageOf id,none⟩=false:=h.head.frozen _
  generalize l.getD (pageOf id) 0=x at *;generalize bitOf id=b at *;generalize pageOf id=i at *
  have B:=fun n=>Hd (B n)
  clear h hin h1 ho
  go_enter func296,ntmps296
  go_wp2_with fail;refine A.out.mono ?_;rintro e w1 ⟨rfl,n,rfl⟩;go_wp2_with fail;refine (B n).out.mono ?_;rintro e w1 ⟨rfl,n2,rfl⟩;go_wp2
  go_region
  go_wp2;go_returns
  exact ⟨rfl,((HT.out.below (belowN w (n+n2))).set h2 _ (bits_u8 .andNot x b)).ch (Ch.refl (fun _=>False) _).drew (fun _ _ h=>h),(((Ch.refl F _).drewN (n+n2)).setCell (p:=⟨p,i,none⟩) (fun _=>HT.out.fp) _).drew,by simp⟩
theorem pool_new (w:World):Calls prog 116 #[.int .i64 12] w fun e w'=>(∃ p,e=.returned (.tuple #[.pointer (some ⟨p,0,none⟩),.int .i64 0])∧PoolAt w' (Plus w w' (fun _=>False)) p (List.replicate 12 0))∧Below w.heap.size w w':=by
 go_enter func116,ntmps116
 go_wp2;go_returns
 exact ⟨⟨w.heap.size,rfl,Blk.at _ _ rfl,.inr ⟨Nat.le_refl _,by simp⟩,by simp,fun x hx=>by have:=List.eq_of_mem_replicate hx;omega⟩,(Below.refl _ _).alloc (Nat.le_refl _) _⟩
end Go.Proofs.YtiocbpabbjgkhaaGreatDoor
