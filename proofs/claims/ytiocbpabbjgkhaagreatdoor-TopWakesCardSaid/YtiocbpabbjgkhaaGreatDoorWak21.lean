/- Part 21 of the proof: contracts and plain laws, each under the conditions that it names. -/
import Derived.Test.YtiocbpabbjgkhaaGreatDoorWak20
set_option maxRecDepth 100000
set_option maxHeartbeats 20000000
set_option linter.unusedVariables false
set_option linter.unusedSimpArgs false
namespace Go.Proofs.YtiocbpabbjgkhaaGreatDoor
open Go.RowKit Go.Proofs.Tryz
variable {w w' : World} {F : Nat → Prop} {p : Nat} {f : KF} {k : K}
section
open Go.Proofs.YtiocbpabbjgkhaaGreatDoor.NumD
def kWhat (k:K) (cpu:Int):Int :=
 coreNext (coreGet k.co cpu).1.power (coreGet k.co cpu).1.idle (wants (stopMust k.st cpu) (hasF k.st.held cpu) (kHot k cpu) (hasF k.active cpu) (decide (0 < boxLoad k.cl cpu)) (kWaits k cpu).2 (timersReady k.tm cpu) (kWork k cpu) (decide (0 < runqLoad k.qs cpu)))
def kCount (k:K) (cpu what:Int):K:=if (coreGet k.co cpu).1.power then { k with co:=(coreSet k.co cpu (countF (what != 0 && what != 9))).1 } else k
def kAct (k:K) (cpu what:Int):K × List Rec :=
 if what=0 then (k,[]) else
 if what=1 then ({ k with co:=(coreSet k.co cpu (wakeF k.now)).1 },[]) else
 if what=2 then ({ k with st:=(stopAck k.st cpu).1 },[]) else
 if what=3 then kTurn k cpu else
 if what=9 then (kLie k cpu,[]) else kThing k cpu what
def kStep (k:K) (cpu:Int):K × List Rec:=kAct (kCount k cpu (kWhat k cpu)) cpu (kWhat k cpu)
theorem KAt.kstep (h:KAt w F p f k) (hf:fewT k.tm) (hk:keysT k.tm) (hx:nextOk k.tm) (cpu:Int) (hd:0≤(timersNext k.tm cpu).1∧(timersNext k.tm cpu).1≤1152921504606846976):Calls prog 80 #[.pointer (some ⟨p,0,none⟩),.int .i64 cpu] w fun e w'=>KR w F p f (kStep k cpu).1 (kStep k cpu).2 e w':=by
 replace hf:=Hd hf;replace hk:=Hd hk;replace hx:=Hd hx;replace hd:=Hd hd
 have P:=h.kcget cpu
 have c12:=h.h12;have H0:=Hd h;have HK:=Hd h;have HL:=Hd (Lk.refl w F);clear h;unfold kStep kCount
 obtain ⟨what,hwhat⟩:∃ what,what=kWhat k cpu:=⟨_,rfl⟩
 rw [← hwhat];unfold kWhat at hwhat
 obtain ⟨c,hc⟩:∃ c,c=(coreGet k.co cpu).1:=⟨_,rfl⟩
 rw [← hc] at hwhat P ⊢;generalize (coreGet k.co cpu).2=cwhy at P;obtain ⟨power,idle,way,since,steps,busy⟩:=c
 dsimp only [coreL] at hwhat P ⊢
 have P:Calls prog 12 #[.pointer (some ⟨f.pt 12,0,none⟩),.int .i64 cpu] w fun e w'=>e=.returned (.tuple #[.agg #[.bool power,.bool idle,.int .i64 way,.int .i64 since,.int .i64 steps,.int .i64 busy],.int .i64 cwhy])∧Below w.heap.size w w':=P
 have C:=fun (w:World)=>cnext_any power idle way since steps busy (stopMust k.st cpu) (hasF k.st.held cpu) (kHot k cpu) (hasF k.active cpu) (decide (0 < boxLoad k.cl cpu)) (kWaits k cpu).2 (timersReady k.tm cpu) (kWork k cpu) (decide (0 < runqLoad k.qs cpu)) w
 rw [← hwhat] at C
 have A:=fun (w:World) (F:Nat→Prop) (h:KAt w F p f k)=>h.kflags hf.out cpu
 unfold flagsV at A;generalize stopMust k.st cpu=z0 at A C;generalize hasF k.st.held cpu=z1 at A C;generalize kHot k cpu=z2 at A C;generalize hasF k.active cpu=z3 at A C;generalize decide (0 < boxLoad k.cl cpu)=z4 at A C;generalize (kWaits k cpu).2=z5 at A C;generalize timersReady k.tm cpu=z6 at A C;generalize kWork k cpu=z7 at A C;generalize decide (0 < runqLoad k.qs cpu)=z8 at A C;replace C:=Hd C;replace A:=Hd A;replace P:=Hd P;replace hc:=Hd hc;replace hwhat:=Hd hwhat;unfold kAct
 by_cases h0:what=0
 ·subst h0
  rw [if_pos rfl]
  cases power with
  | false =>
   rw [if_neg (by decide)]
   go_enter func80,ntmps80
   go_wp2_with fail;refine P.out.mono ?_;rintro e w1 ⟨rfl,S⟩;clear P c12;replace HL:=Hd (HL.out.below S);replace HK:=Hd (HK.out.below S);clear S
   have HX:=HK.out.bx HL.out #[.bool false,.bool idle,.int .i64 way,.int .i64 since,.int .i64 steps,.int .i64 busy] 32
   clear HL HK;obtain ⟨HB,HK,HL⟩:=HX
   obtain ⟨w2,hw2⟩:∃ w2,w2=w1.alloc (.cells #[.bool false,.bool idle,.int .i64 way,.int .i64 since,.int .i64 steps,.int .i64 busy] 32):=⟨_,rfl⟩
   rw [← hw2] at HB HK HL
   have b0:=fun x:Aft w2=>keepcell x.h (HB.out.cell 0)
   have b1:=fun x:Aft w2=>keepcell x.h (HB.out.cell 1)
   have b2:=fun x:Aft w2=>keepcell x.h (HB.out.cell 2)
   have b3:=fun x:Aft w2=>keepcell x.h (HB.out.cell 3)
   have b4:=fun x:Aft w2=>keepcell x.h (HB.out.cell 4)
   have b5:=fun x:Aft w2=>keepcell x.h (HB.out.cell 5)
   have A2:=fun x:Aft w2=>Hd (A.out x.w _ (HK.out.below x.h))
   have C2:=fun x:Aft w2=>Hd (C.out x.w)
   go_wp2;rw [← hw2]
   refine wp_region_aft ?_ ?_ ?_;(kernel_rfl);(kernel_rfl);(repeat (go_big_quiet_step ((first | (go_at_call 119;exact quiet_aft (A2 _).out) | (go_at_call 118;exact quiet_aft (C2 _).out)))));refine wpQuiet_nil ?_;rintro _ ⟨nx,rfl⟩
   clear b0 b1 b2 b3 b4 b5 A2 C2
   replace HB:=Hd (HB.out.lk (Lk.of_below nx.h))
   replace HL:=Hd (HL.out.below nx.h);replace HK:=Hd (HK.out.below nx.h);have b0:=HB.out.cell 0;go_wp2;go_returns
   exact ⟨⟨_,rfl,RecsK.none HL.out HK.out⟩,HK.out.close HL.out H0.out⟩
  | true =>
   rw [if_pos rfl];rw [show ((0:Int) != 0 && (0:Int) != 9)=false from by decide]
   go_enter func80,ntmps80
   go_wp2_with fail;refine P.out.mono ?_;rintro e w1 ⟨rfl,S⟩;clear P c12;replace HL:=Hd (HL.out.below S);replace HK:=Hd (HK.out.below S);clear S
   have HX:=HK.out.bx HL.out #[.bool true,.bool idle,.int .i64 way,.int .i64 since,.int .i64 steps,.int .i64 busy] 32
   clear HL HK;obtain ⟨HB,HK,HL⟩:=HX
   obtain ⟨w2,hw2⟩:∃ w2,w2=w1.alloc (.cells #[.bool true,.bool idle,.int .i64 way,.int .i64 since,.int .i64 steps,.int .i64 busy] 32):=⟨_,rfl⟩
   rw [← hw2] at HB HK HL
   have b0:=fun x:Aft w2=>keepcell x.h (HB.out.cell 0)
   have b1:=fun x:Aft w2=>keepcell x.h (HB.out.cell 1)
   have b2:=fun x:Aft w2=>keepcell x.h (HB.out.cell 2)
   have b3:=fun x:Aft w2=>keepcell x.h (HB.out.cell 3)
   have b4:=fun x:Aft w2=>keepcell x.h (HB.out.cell 4)
   have b5:=fun x:Aft w2=>keepcell x.h (HB.out.cell 5)
   have A2:=fun x:Aft w2=>Hd (A.out x.w _ (HK.out.below x.h))
   have C2:=fun x:Aft w2=>Hd (C.out x.w)
   go_wp2;rw [← hw2]
   refine wp_region_aft ?_ ?_ ?_;(kernel_rfl);(kernel_rfl);(repeat (go_big_quiet_step ((first | (go_at_call 119;exact quiet_aft (A2 _).out) | (go_at_call 118;exact quiet_aft (C2 _).out)))));refine wpQuiet_nil ?_;rintro _ ⟨nx,rfl⟩
   clear b0 b1 b2 b3 b4 b5 A2 C2
   replace HB:=Hd (HB.out.lk (Lk.of_below nx.h))
   replace HL:=Hd (HL.out.below nx.h);replace HK:=Hd (HK.out.below nx.h);have b0:=HB.out.cell 0;have P:=Hd (HK.out.kccount cpu false);have c12:=HK.out.h12;go_wp2_with fail;refine P.out.mono ?_;rintro e w1 ⟨rfl,S⟩;clear P c12;obtain ⟨F1,L1,K1⟩:=S.open;clear S
   try dsimp only at K1
   replace HB:=Hd (HB.out.lk L1);replace HL:=Hd (HL.out.trans L1);replace HK:=Hd K1;clear L1 K1;go_wp2;go_returns
   exact ⟨⟨_,rfl,RecsK.none HL.out HK.out⟩,HK.out.close HL.out H0.out⟩
 have g0:(what == 0)=false:=by simpa using h0
 have m0:(what != 0)=true:=by simpa using h0
 by_cases h1:what=1
 ·subst h1
  rw [if_neg (show ¬ ((1:Int)=0) by decide),if_pos rfl];clear h0 g0 m0
  cases power with
  | false =>
   rw [if_neg (by decide)]
   exact absurd (hwhat.out.trans (show coreNext false idle _=0 from rfl)) (by decide)
  | true =>
   rw [if_pos rfl];rw [show ((1:Int) != 0 && (1:Int) != 9)=true from by decide]
   go_enter func80,ntmps80
   go_wp2_with fail;refine P.out.mono ?_;rintro e w1 ⟨rfl,S⟩;clear P c12;replace HL:=Hd (HL.out.below S);replace HK:=Hd (HK.out.below S);clear S
   have HX:=HK.out.bx HL.out #[.bool true,.bool idle,.int .i64 way,.int .i64 since,.int .i64 steps,.int .i64 busy] 32
   clear HL HK;obtain ⟨HB,HK,HL⟩:=HX
   obtain ⟨w2,hw2⟩:∃ w2,w2=w1.alloc (.cells #[.bool true,.bool idle,.int .i64 way,.int .i64 since,.int .i64 steps,.int .i64 busy] 32):=⟨_,rfl⟩
   rw [← hw2] at HB HK HL
   have b0:=fun x:Aft w2=>keepcell x.h (HB.out.cell 0)
   have b1:=fun x:Aft w2=>keepcell x.h (HB.out.cell 1)
   have b2:=fun x:Aft w2=>keepcell x.h (HB.out.cell 2)
   have b3:=fun x:Aft w2=>keepcell x.h (HB.out.cell 3)
   have b4:=fun x:Aft w2=>keepcell x.h (HB.out.cell 4)
   have b5:=fun x:Aft w2=>keepcell x.h (HB.out.cell 5)
   have A2:=fun x:Aft w2=>Hd (A.out x.w _ (HK.out.below x.h))
   have C2:=fun x:Aft w2=>Hd (C.out x.w)
   go_wp2;rw [← hw2]
   refine wp_region_aft ?_ ?_ ?_;(kernel_rfl);(kernel_rfl);(repeat (go_big_quiet_step ((first | (go_at_call 119;exact quiet_aft (A2 _).out) | (go_at_call 118;exact quiet_aft (C2 _).out)))));refine wpQuiet_nil ?_;rintro _ ⟨nx,rfl⟩
   clear b0 b1 b2 b3 b4 b5 A2 C2
   replace HB:=Hd (HB.out.lk (Lk.of_below nx.h))
   replace HL:=Hd (HL.out.below nx.h);replace HK:=Hd (HK.out.below nx.h);have b0:=HB.out.cell 0;have P:=Hd (HK.out.kccount cpu true);have c12:=HK.out.h12;go_wp2_with fail;refine P.out.mono ?_;rintro e w1 ⟨rfl,S⟩;clear P c12;obtain ⟨F1,L1,K1⟩:=S.open;clear S
   try dsimp only at K1
   replace HB:=Hd (HB.out.lk L1);replace HL:=Hd (HL.out.trans L1);replace HK:=Hd K1;clear L1 K1;have c12:=HK.out.h12;have c18:=HK.out.hnw
   have Q:=fun n=>Hd ((HK.out.drewN n).kcwake cpu k.now)
   go_wp2_with fail
   refine region_tailC (C:=fun w'=>∃ k,w'=(w1).drewN k) 10 ?_ ?_ ?_ ?_;(kernel_rfl);(kernel_rfl);(first | exact cls0 _ | exact clsN _ _);simp only [List.take_succ_cons,List.take_zero,List.drop_succ_cons,List.drop_zero];(repeat (go_big_quiet_step (fail)));refine wpQuiet_nil ?_;rintro _ ⟨nq,rfl⟩
   go_wp2_with fail;refine (Q nq).out.mono ?_;rintro e w3 ⟨⟨m,rfl⟩,S⟩;clear Q c12 c18;replace HL:=Hd (HL.out.drewN nq);replace HK:=Hd (HK.out.drewN nq);replace S:=S.nx HL.out;clear HL HK;obtain ⟨F1,HK,HL⟩:=S
   try dsimp only at HK
   go_wp2;go_returns
   exact ⟨⟨_,rfl,RecsK.none HL.out HK.out⟩,HK.out.close HL.out H0.out⟩
 have g1:(what == 1)=false:=by simpa using h1
 have m1:(what != 1)=true:=by simpa using h1
 by_cases h2:what=2
 ·subst h2
  rw [if_neg (show ¬ ((2:Int)=0) by decide),if_neg (show ¬ ((2:Int)=1) by decide),if_pos rfl];clear h0 g0 m0 h1 g1 m1
  cases power with
  | false =>
   rw [if_neg (by decide)]
   exact absurd (hwhat.out.trans (show coreNext false idle _=0 from rfl)) (by decide)
  | true =>
   rw [if_pos rfl];rw [show ((2:Int) != 0 && (2:Int) != 9)=true from by decide]
   go_enter func80,ntmps80
   go_wp2_with fail;refine P.out.mono ?_;rintro e w1 ⟨rfl,S⟩;clear P c12;replace HL:=Hd (HL.out.below S);replace HK:=Hd (HK.out.below S);clear S
   have HX:=HK.out.bx HL.out #[.bool true,.bool idle,.int .i64 way,.int .i64 since,.int .i64 steps,.int .i64 busy] 32
   clear HL HK;obtain ⟨HB,HK,HL⟩:=HX
   obtain ⟨w2,hw2⟩:∃ w2,w2=w1.alloc (.cells #[.bool true,.bool idle,.int .i64 way,.int .i64 since,.int .i64 steps,.int .i64 busy] 32):=⟨_,rfl⟩
   rw [← hw2] at HB HK HL
   have b0:=fun x:Aft w2=>keepcell x.h (HB.out.cell 0)
   have b1:=fun x:Aft w2=>keepcell x.h (HB.out.cell 1)
   have b2:=fun x:Aft w2=>keepcell x.h (HB.out.cell 2)
   have b3:=fun x:Aft w2=>keepcell x.h (HB.out.cell 3)
   have b4:=fun x:Aft w2=>keepcell x.h (HB.out.cell 4)
   have b5:=fun x:Aft w2=>keepcell x.h (HB.out.cell 5)
   have A2:=fun x:Aft w2=>Hd (A.out x.w _ (HK.out.below x.h))
   have C2:=fun x:Aft w2=>Hd (C.out x.w)
   go_wp2;rw [← hw2]
   refine wp_region_aft ?_ ?_ ?_;(kernel_rfl);(kernel_rfl);(repeat (go_big_quiet_step ((first | (go_at_call 119;exact quiet_aft (A2 _).out) | (go_at_call 118;exact quiet_aft (C2 _).out)))));refine wpQuiet_nil ?_;rintro _ ⟨nx,rfl⟩
   clear b0 b1 b2 b3 b4 b5 A2 C2
   replace HB:=Hd (HB.out.lk (Lk.of_below nx.h))
   replace HL:=Hd (HL.out.below nx.h);replace HK:=Hd (HK.out.below nx.h);have b0:=HB.out.cell 0;have P:=Hd (HK.out.kccount cpu true);have c12:=HK.out.h12;go_wp2_with fail;refine P.out.mono ?_;rintro e w1 ⟨rfl,S⟩;clear P c12;obtain ⟨F1,L1,K1⟩:=S.open;clear S
   try dsimp only at K1
   replace HB:=Hd (HB.out.lk L1);replace HL:=Hd (HL.out.trans L1);replace HK:=Hd K1;clear L1 K1;have P:=Hd (HK.out.ksack cpu);have c10:=HK.out.h10;go_wp2_with fail;refine P.out.mono ?_;rintro e w1 ⟨rfl,S⟩;clear P c10;replace S:=S.nx HL.out;clear HL HK;obtain ⟨F1,HK,HL⟩:=S
   try dsimp only at HK
   go_wp2;go_returns
   exact ⟨⟨_,rfl,RecsK.none HL.out HK.out⟩,HK.out.close HL.out H0.out⟩
 have g2:(what == 2)=false:=by simpa using h2
 have m2:(what != 2)=true:=by simpa using h2
 by_cases h3:what=3
 ·subst h3
  rw [if_neg (show ¬ ((3:Int)=0) by decide),if_neg (show ¬ ((3:Int)=1) by decide),if_neg (show ¬ ((3:Int)=2) by decide),if_pos rfl];clear h0 g0 m0 h1 g1 m1 h2 g2 m2
  cases power with
  | false =>
   rw [if_neg (by decide)]
   exact absurd (hwhat.out.trans (show coreNext false idle _=0 from rfl)) (by decide)
  | true =>
   rw [if_pos rfl];rw [show ((3:Int) != 0 && (3:Int) != 9)=true from by decide]
   go_enter func80,ntmps80
   go_wp2_with fail;refine P.out.mono ?_;rintro e w1 ⟨rfl,S⟩;clear P c12;replace HL:=Hd (HL.out.below S);replace HK:=Hd (HK.out.below S);clear S
   have HX:=HK.out.bx HL.out #[.bool true,.bool idle,.int .i64 way,.int .i64 since,.int .i64 steps,.int .i64 busy] 32
   clear HL HK;obtain ⟨HB,HK,HL⟩:=HX
   obtain ⟨w2,hw2⟩:∃ w2,w2=w1.alloc (.cells #[.bool true,.bool idle,.int .i64 way,.int .i64 since,.int .i64 steps,.int .i64 busy] 32):=⟨_,rfl⟩
   rw [← hw2] at HB HK HL
   have b0:=fun x:Aft w2=>keepcell x.h (HB.out.cell 0)
   have b1:=fun x:Aft w2=>keepcell x.h (HB.out.cell 1)
   have b2:=fun x:Aft w2=>keepcell x.h (HB.out.cell 2)
   have b3:=fun x:Aft w2=>keepcell x.h (HB.out.cell 3)
   have b4:=fun x:Aft w2=>keepcell x.h (HB.out.cell 4)
   have b5:=fun x:Aft w2=>keepcell x.h (HB.out.cell 5)
   have A2:=fun x:Aft w2=>Hd (A.out x.w _ (HK.out.below x.h))
   have C2:=fun x:Aft w2=>Hd (C.out x.w)
   go_wp2;rw [← hw2]
   refine wp_region_aft ?_ ?_ ?_;(kernel_rfl);(kernel_rfl);(repeat (go_big_quiet_step ((first | (go_at_call 119;exact quiet_aft (A2 _).out) | (go_at_call 118;exact quiet_aft (C2 _).out)))));refine wpQuiet_nil ?_;rintro _ ⟨nx,rfl⟩
   clear b0 b1 b2 b3 b4 b5 A2 C2
   replace HB:=Hd (HB.out.lk (Lk.of_below nx.h))
   replace HL:=Hd (HL.out.below nx.h);replace HK:=Hd (HK.out.below nx.h);have b0:=HB.out.cell 0;have P:=Hd (HK.out.kccount cpu true);have c12:=HK.out.h12;go_wp2_with fail;refine P.out.mono ?_;rintro e w1 ⟨rfl,S⟩;clear P c12;obtain ⟨F1,L1,K1⟩:=S.open;clear S
   try dsimp only at K1
   replace HB:=Hd (HB.out.lk L1);replace HL:=Hd (HL.out.trans L1);replace HK:=Hd K1;clear L1 K1;have P:=Hd (HK.out.kturn hf.out hk.out cpu);go_wp2_with fail;refine P.out.mono ?_;rintro e w1 ⟨⟨v,rfl,hv⟩,S⟩;replace hv:=Hd (hv.lift HL.out);clear P;replace S:=S.nx HL.out;clear HL HK;obtain ⟨F1,HK,HL⟩:=S
   try dsimp only at HK
   go_wp2;go_returns
   exact ⟨⟨_,rfl,hv.out⟩,HK.out.close HL.out H0.out⟩
 have g3:(what == 3)=false:=by simpa using h3
 have m3:(what != 3)=true:=by simpa using h3
 by_cases h9:what=9
 ·subst h9
  rw [if_neg (show ¬ ((9:Int)=0) by decide),if_neg (show ¬ ((9:Int)=1) by decide),if_neg (show ¬ ((9:Int)=2) by decide),if_neg (show ¬ ((9:Int)=3) by decide),if_pos rfl];clear h0 g0 m0 h1 g1 m1 h2 g2 m2 h3 g3 m3
  cases power with
  | false =>
   rw [if_neg (by decide)]
   exact absurd (hwhat.out.trans (show coreNext false idle _=0 from rfl)) (by decide)
  | true =>
   rw [if_pos rfl];rw [show ((9:Int) != 0 && (9:Int) != 9)=false from by decide]
   go_enter func80,ntmps80
   go_wp2_with fail;refine P.out.mono ?_;rintro e w1 ⟨rfl,S⟩;clear P c12;replace HL:=Hd (HL.out.below S);replace HK:=Hd (HK.out.below S);clear S
   have HX:=HK.out.bx HL.out #[.bool true,.bool idle,.int .i64 way,.int .i64 since,.int .i64 steps,.int .i64 busy] 32
   clear HL HK;obtain ⟨HB,HK,HL⟩:=HX
   obtain ⟨w2,hw2⟩:∃ w2,w2=w1.alloc (.cells #[.bool true,.bool idle,.int .i64 way,.int .i64 since,.int .i64 steps,.int .i64 busy] 32):=⟨_,rfl⟩
   rw [← hw2] at HB HK HL
   have b0:=fun x:Aft w2=>keepcell x.h (HB.out.cell 0)
   have b1:=fun x:Aft w2=>keepcell x.h (HB.out.cell 1)
   have b2:=fun x:Aft w2=>keepcell x.h (HB.out.cell 2)
   have b3:=fun x:Aft w2=>keepcell x.h (HB.out.cell 3)
   have b4:=fun x:Aft w2=>keepcell x.h (HB.out.cell 4)
   have b5:=fun x:Aft w2=>keepcell x.h (HB.out.cell 5)
   have A2:=fun x:Aft w2=>Hd (A.out x.w _ (HK.out.below x.h))
   have C2:=fun x:Aft w2=>Hd (C.out x.w)
   go_wp2;rw [← hw2]
   refine wp_region_aft ?_ ?_ ?_;(kernel_rfl);(kernel_rfl);(repeat (go_big_quiet_step ((first | (go_at_call 119;exact quiet_aft (A2 _).out) | (go_at_call 118;exact quiet_aft (C2 _).out)))));refine wpQuiet_nil ?_;rintro _ ⟨nx,rfl⟩
   clear b0 b1 b2 b3 b4 b5 A2 C2
   replace HB:=Hd (HB.out.lk (Lk.of_below nx.h))
   replace HL:=Hd (HL.out.below nx.h);replace HK:=Hd (HK.out.below nx.h);have b0:=HB.out.cell 0;have P:=Hd (HK.out.kccount cpu false);have c12:=HK.out.h12;go_wp2_with fail;refine P.out.mono ?_;rintro e w1 ⟨rfl,S⟩;clear P c12;obtain ⟨F1,L1,K1⟩:=S.open;clear S
   try dsimp only at K1
   replace HB:=Hd (HB.out.lk L1);replace HL:=Hd (HL.out.trans L1);replace HK:=Hd K1;clear L1 K1;have P:=Hd (HK.out.klie hf.out hx.out cpu hd.out);go_wp2_with fail;refine P.out.mono ?_;rintro e w1 ⟨rfl,S⟩;clear P;replace S:=S.nx HL.out;clear HL HK;obtain ⟨F1,HK,HL⟩:=S
   try dsimp only at HK
   go_wp2;go_returns
   exact ⟨⟨_,rfl,RecsK.none HL.out HK.out⟩,HK.out.close HL.out H0.out⟩
 have g9:(what == 9)=false:=by simpa using h9
 have m9:(what != 9)=true:=by simpa using h9
 rw [if_neg h0,if_neg h1,if_neg h2,if_neg h3,if_neg h9]
 cases power with
 | false =>
  rw [if_neg (by decide)]
  exact absurd (hwhat.out.trans (show coreNext false idle _=0 from rfl)) h0
 | true =>
  rw [if_pos rfl]
  rw [show (what != 0 && what != 9)=true from by simp [h0,h9]]
  go_enter func80,ntmps80
  go_wp2_with fail;refine P.out.mono ?_;rintro e w1 ⟨rfl,S⟩;clear P c12;replace HL:=Hd (HL.out.below S);replace HK:=Hd (HK.out.below S);clear S
  have HX:=HK.out.bx HL.out #[.bool true,.bool idle,.int .i64 way,.int .i64 since,.int .i64 steps,.int .i64 busy] 32
  clear HL HK;obtain ⟨HB,HK,HL⟩:=HX
  obtain ⟨w2,hw2⟩:∃ w2,w2=w1.alloc (.cells #[.bool true,.bool idle,.int .i64 way,.int .i64 since,.int .i64 steps,.int .i64 busy] 32):=⟨_,rfl⟩
  rw [← hw2] at HB HK HL
  have b0:=fun x:Aft w2=>keepcell x.h (HB.out.cell 0)
  have b1:=fun x:Aft w2=>keepcell x.h (HB.out.cell 1)
  have b2:=fun x:Aft w2=>keepcell x.h (HB.out.cell 2)
  have b3:=fun x:Aft w2=>keepcell x.h (HB.out.cell 3)
  have b4:=fun x:Aft w2=>keepcell x.h (HB.out.cell 4)
  have b5:=fun x:Aft w2=>keepcell x.h (HB.out.cell 5)
  have A2:=fun x:Aft w2=>Hd (A.out x.w _ (HK.out.below x.h))
  have C2:=fun x:Aft w2=>Hd (C.out x.w)
  go_wp2;rw [← hw2]
  refine wp_region_aft ?_ ?_ ?_;(kernel_rfl);(kernel_rfl);(repeat (go_big_quiet_step ((first | (go_at_call 119;exact quiet_aft (A2 _).out) | (go_at_call 118;exact quiet_aft (C2 _).out)))));refine wpQuiet_nil ?_;rintro _ ⟨nx,rfl⟩
  clear b0 b1 b2 b3 b4 b5 A2 C2
  replace HB:=Hd (HB.out.lk (Lk.of_below nx.h))
  replace HL:=Hd (HL.out.below nx.h);replace HK:=Hd (HK.out.below nx.h);have b0:=HB.out.cell 0;have P:=Hd (HK.out.kccount cpu true);have c12:=HK.out.h12;go_wp2_with fail;refine P.out.mono ?_;rintro e w1 ⟨rfl,S⟩;clear P c12;obtain ⟨F1,L1,K1⟩:=S.open;clear S
  try dsimp only at K1
  replace HB:=Hd (HB.out.lk L1);replace HL:=Hd (HL.out.trans L1);replace HK:=Hd K1;clear L1 K1;have P:=Hd (HK.out.kthing hf.out cpu what);go_wp2_with fail;refine P.out.mono ?_;rintro e w1 ⟨⟨v,rfl,hv⟩,S⟩;replace hv:=Hd (hv.lift HL.out);clear P;replace S:=S.nx HL.out;clear HL HK;obtain ⟨F1,HK,HL⟩:=S
  try dsimp only at HK
  go_wp2;go_returns
  exact ⟨⟨_,rfl,hv.out⟩,HK.out.close HL.out H0.out⟩
end
theorem after_no (w:World) (why:Int) (hw:why≠0) (f:Value):Calls prog 138 #[.int .i64 why,f] w fun e w'=>e=.returned (.int .i64 why)∧w=w':=by
 have h':(why == 0)=false:=by simpa using hw
 go_enter func138,ntmps138
 go_wp2;go_returns
 exact ⟨rfl,rfl⟩
theorem after_140 (w:World) (a b:Nat) (Q:World→Prop) (hc:Calls prog 140 #[.pointer (some ⟨a,0,none⟩),.pointer (some ⟨b,0,none⟩)] w fun e w'=>e=.returned (.tuple #[])∧Q w'):Calls prog 138 #[.int .i64 0,.func (.func 140) #[] #[.pointer (some ⟨a,0,none⟩),.pointer (some ⟨b,0,none⟩)]] w fun e w'=>e=.returned (.int .i64 0)∧Q w':=by
 replace hc:=Hd hc
 go_enter func138,ntmps138
 go_wp2_with (go_at_call 140;refine hc.out.mono ?_;rintro e w' ⟨rfl,hq⟩)
 go_returns
 exact ⟨rfl,hq⟩
section
open Go.Proofs.YtiocbpabbjgkhaaGreatDoor.NumD
theorem after_143 (w:World) (a b:Nat) (Q:World→Prop) (hc:Calls prog 143 #[.pointer (some ⟨a,0,none⟩),.pointer (some ⟨b,0,none⟩)] w fun e w'=>e=.returned (.tuple #[])∧Q w'):Calls prog 138 #[.int .i64 0,.func (.func 143) #[] #[.pointer (some ⟨a,0,none⟩),.pointer (some ⟨b,0,none⟩)]] w fun e w'=>e=.returned (.int .i64 0)∧Q w':=by
 replace hc:=Hd hc
 go_enter func138,ntmps138
 go_wp2_with (go_at_call 143;refine hc.out.mono ?_;rintro e w' ⟨rfl,hq⟩)
 go_returns
 exact ⟨rfl,hq⟩
theorem after_146 (w:World) (a b:Nat) (Q:World→Prop) (hc:Calls prog 146 #[.pointer (some ⟨a,0,none⟩),.pointer (some ⟨b,0,none⟩)] w fun e w'=>e=.returned (.tuple #[])∧Q w'):Calls prog 138 #[.int .i64 0,.func (.func 146) #[] #[.pointer (some ⟨a,0,none⟩),.pointer (some ⟨b,0,none⟩)]] w fun e w'=>e=.returned (.int .i64 0)∧Q w':=by
 replace hc:=Hd hc
 go_enter func138,ntmps138
 go_wp2_with (go_at_call 146;refine hc.out.mono ?_;rintro e w' ⟨rfl,hq⟩)
 go_returns
 exact ⟨rfl,hq⟩
theorem KAt.k140 (h:KAt w F p f k) {a b:Nat} (ha:Blk w a #[.pointer (some ⟨p,0,none⟩)] 23) {kind cpu id n:Int} {m:Nat} (hb:Blk w b #[.int .i64 kind,.int .i64 cpu,.int .i64 id,.int .u64 m,.int .i64 n] 39):Calls prog 140 #[.pointer (some ⟨a,0,none⟩),.pointer (some ⟨b,0,none⟩)] w fun e w'=>e=.returned (.tuple #[])∧KS w w' F p f (kLead k id (id.tmod k.cpus)):=by
 have hc1:=h.n1;have hc64:=h.n64;have c15:=h.hcp;have a0:=ha.cell 0;have b2:=hb.cell 2;have H0:=Hd h;have HK:=Hd h;have HL:=Hd (Lk.refl w F);clear h
 obtain ⟨cpus,hcp⟩:∃ c:Int,c=k.cpus:=⟨_,rfl⟩
 have hc0:cpus≠0:=by omega
 rw [← hcp] at c15 ⊢
 have Q:=fun n=>Hd ((HK.out.drewN n).klead id (id.tmod cpus))
 replace hcp:=Hd hcp;replace hc1:=Hd hc1;replace hc64:=Hd hc64
 go_enter func140,ntmps140
 go_wp2
 refine region_tailC (C:=fun w'=>∃ k,w'=(w).drewN k) 10 ?_ ?_ ?_ ?_;(kernel_rfl);(kernel_rfl);(first | exact cls0 _ | exact clsN _ _);simp only [List.take_succ_cons,List.take_zero,List.drop_succ_cons,List.drop_zero];(repeat (go_big_quiet_step (fail)));refine wpQuiet_nil ?_;rintro _ ⟨nq,rfl⟩
 go_wp2_with fail;refine (Q nq).out.mono ?_;rintro e w1 ⟨rfl,S⟩;clear Q c15 a0 b2;replace HL:=Hd (HL.out.drewN nq);replace HK:=Hd (HK.out.drewN nq);replace S:=S.nx HL.out;clear HL HK;obtain ⟨F1,HK,HL⟩:=S
 try dsimp only at HK
 go_wp2;go_end0
 exact ⟨rfl,HK.out.close HL.out H0.out⟩
theorem KAt.k143 (h:KAt w F p f k) {a b:Nat} (ha:Blk w a #[.pointer (some ⟨p,0,none⟩)] 23) {kind cpu id n:Int} {m:Nat} (hb:Blk w b #[.int .i64 kind,.int .i64 cpu,.int .i64 id,.int .u64 m,.int .i64 n] 39):Calls prog 143 #[.pointer (some ⟨a,0,none⟩),.pointer (some ⟨b,0,none⟩)] w fun e w'=>e=.returned (.tuple #[])∧KS w w' F p f { k with rt:=(routeOff k.rt id).1 }:=by
 have c4:=h.h4;have a0:=ha.cell 0;have b2:=hb.cell 2;have H0:=Hd h;have HK:=Hd h;have HL:=Hd (Lk.refl w F);clear h
 have Q:=fun n=>Hd ((HK.out.drewN n).kooff id)
 go_enter func143,ntmps143
 go_wp2
 refine region_tailC (C:=fun w'=>∃ k,w'=(w).drewN k) 7 ?_ ?_ ?_ ?_;(kernel_rfl);(kernel_rfl);(first | exact cls0 _ | exact clsN _ _);simp only [List.take_succ_cons,List.take_zero,List.drop_succ_cons,List.drop_zero];(repeat (go_big_quiet_step (fail)));refine wpQuiet_nil ?_;rintro _ ⟨nq,rfl⟩
 go_wp2_with fail;refine (Q nq).out.mono ?_;rintro e w1 ⟨rfl,S⟩;clear Q c4 a0 b2;replace HL:=Hd (HL.out.drewN nq);replace HK:=Hd (HK.out.drewN nq);replace S:=S.nx HL.out;clear HL HK;obtain ⟨F1,HK,HL⟩:=S
 try dsimp only at HK
 go_wp2;go_end0
 exact ⟨rfl,HK.out.close HL.out H0.out⟩
theorem KAt.k146 (h:KAt w F p f k) {a b:Nat} (ha:Blk w a #[.pointer (some ⟨p,0,none⟩)] 23) {kind cpu id n:Int} {m:Nat} (hb:Blk w b #[.int .i64 kind,.int .i64 cpu,.int .i64 id,.int .u64 m,.int .i64 n] 39):Calls prog 146 #[.pointer (some ⟨a,0,none⟩),.pointer (some ⟨b,0,none⟩)] w fun e w'=>e=.returned (.tuple #[])∧KS w w' F p f (kAim k id):=by
 have a0:=ha.cell 0;have b2:=hb.cell 2;have H0:=Hd h;have HK:=Hd h;have HL:=Hd (Lk.refl w F);clear h
 go_enter func146,ntmps146
 have P:=Hd (HK.out.kaim id);go_wp2_with fail;refine P.out.mono ?_;rintro e w1 ⟨rfl,S⟩;clear P;replace S:=S.nx HL.out;clear HL HK;obtain ⟨F1,HK,HL⟩:=S
 try dsimp only at HK
 go_wp2;go_end0
 exact ⟨rfl,HK.out.close HL.out H0.out⟩
def kInterrupt (k:K) (e:Ev):K × Int :=
 if e.kind=12 then (if (irqRequest k.iq e.id e.mask).2=0 then kLead { k with iq:=(irqRequest k.iq e.id e.mask).1 } e.id (e.id.tmod k.cpus) else { k with iq:=(irqRequest k.iq e.id e.mask).1 },(irqRequest k.iq e.id e.mask).2) else
 if e.kind=13 then (if (irqTurn k.iq e.id (fun _=>noIrq)).2=0 then { k with iq:=(irqTurn k.iq e.id (fun _=>noIrq)).1,rt:=(routeOff k.rt e.id).1 } else { k with iq:=(irqTurn k.iq e.id (fun _=>noIrq)).1 },(irqTurn k.iq e.id (fun _=>noIrq)).2) else
 if e.kind=14 then (if (irqAim k.iq e.id e.mask).2=0 then kAim { k with iq:=(irqAim k.iq e.id e.mask).1 } e.id else { k with iq:=(irqAim k.iq e.id e.mask).1 },(irqAim k.iq e.id e.mask).2) else
 if e.kind=15 then ({ k with iq:=(irqHush k.iq e.id true).1 },(irqHush k.iq e.id true).2) else
 if e.kind=16 then ({ k with iq:=(irqHush k.iq e.id false).1 },(irqHush k.iq e.id false).2) else
 ({ k with iq:=(irqTurn k.iq e.id raiseF).1 },(irqTurn k.iq e.id raiseF).2)
theorem KAt.kinterrupt (h:KAt w F p f k) (e:Ev) (hm:e.mask < top64):Calls prog 85 #[.pointer (some ⟨p,0,none⟩),.agg (evC e)] w fun r w'=>r=.returned (.int .i64 (kInterrupt k e).2)∧KS w w' F p f (kInterrupt k e).1:=by
 have hmf:∀ (fn:Fn) (first cap:Array Value) (w:World),(Instr.makeFunc fn first cap).run prog w=.ok (.func fn first cap) w:=fun _ _ _ _=>rfl
 replace hm:=Hd hm;have H0:=Hd h;have HK:=Hd h;have HL:=Hd (Lk.refl w F);clear h;obtain ⟨kind,cpu,id,m,n⟩:=e;unfold kInterrupt evC;dsimp only at hm ⊢
 have HX:=HK.out.bx HL.out #[.pointer (some ⟨p,0,none⟩)] 23
 clear HL HK;obtain ⟨HA,HK,HL⟩:=HX;have HB:=Hd (Bx.new HK.out #[.int .i64 kind,.int .i64 cpu,.int .i64 id,.int .u64 m,.int .i64 n] 39)
 replace HA:=Hd (HA.out.alloc (.cells #[.int .i64 kind,.int .i64 cpu,.int .i64 id,.int .u64 m,.int .i64 n] 39))
 replace HL:=Hd (HL.out.alloc (.cells #[.int .i64 kind,.int .i64 cpu,.int .i64 id,.int .u64 m,.int .i64 n] 39))
 replace HK:=Hd (HK.out.alloc (.cells #[.int .i64 kind,.int .i64 cpu,.int .i64 id,.int .u64 m,.int .i64 n] 39))
 have hs:(w.alloc (.cells #[.pointer (some ⟨p,0,none⟩)] 23)).heap.size=w.heap.size+1:=by simp
 rw [hs] at HB;have a0:=HA.out.cell 0;have b0:=HB.out.cell 0;have b2:=HB.out.cell 2;have b3:=HB.out.cell 3;have c3:=HK.out.h3
 have hsz:(((w.alloc (.cells #[.pointer (some ⟨p,0,none⟩)] 23)).alloc (.cells #[.int .i64 kind,.int .i64 cpu,.int .i64 id,.int .u64 m,.int .i64 n] 39)).drewN 1).heap.size=w.heap.size+1+1:=by simp
 have nA:∀ x:World,¬ Plus (((w.alloc (.cells #[.pointer (some ⟨p,0,none⟩)] 23)).alloc (.cells #[.int .i64 kind,.int .i64 cpu,.int .i64 id,.int .u64 m,.int .i64 n] 39)).drewN 1) x F w.heap.size:=fun x e=>e.elim HA.out.off (fun e=>by have:=e.1;omega)
 have nB:∀ x:World,¬ Plus (((w.alloc (.cells #[.pointer (some ⟨p,0,none⟩)] 23)).alloc (.cells #[.int .i64 kind,.int .i64 cpu,.int .i64 id,.int .u64 m,.int .i64 n] 39)).drewN 1) x F (w.heap.size+1):=fun x e=>e.elim HB.out.off (fun e=>by have:=e.1;omega)
 clear hsz;replace nA:=Hd nA;replace nB:=Hd nB
 by_cases h12:kind=12
 ·subst h12
  rw [if_pos rfl]
  have Q:=(HK.out.drewN 1).kirequest id m hm.out
  obtain ⟨u,hu⟩:∃ u,u=irqRequest k.iq id m:=⟨_,rfl⟩
  rw [← hu] at Q ⊢;obtain ⟨q1,q2⟩:=u;dsimp only at Q ⊢;replace Q:=Hd Q;replace hu:=Hd hu
  by_cases e2:q2=0
  ·subst e2
   rw [if_pos rfl]
   go_enter func85,ntmps85
   go_wp2_with fail
   go_region_held3 (fun w'=>w'.cell? ⟨w.heap.size,0,none⟩=some (.pointer (some ⟨p,0,none⟩))∧w'.cell? ⟨w.heap.size+1,2,none⟩=some (.int .i64 id)∧w'.cell? ⟨w.heap.size+1,3,none⟩=some (.int .u64 m)∧w'.cell? ⟨p,3,none⟩=some (.pointer (some ⟨f.pt 3,0,none⟩)))
    (first
     | exact ⟨a0,b2,b3,c3⟩
     | exact ⟨(S.keep HA.out.blk HA.out.off).cell 0,(S.keep HB.out.blk HB.out.off).cell 2,(S.keep HB.out.blk HB.out.off).cell 3,S.1.h3⟩
     | exact ⟨(T.keep (S.keep HA.out.blk HA.out.off) (nA.out _)).cell 0,(T.keep (S.keep HB.out.blk HB.out.off) (nB.out _)).cell 2,(T.keep (S.keep HB.out.blk HB.out.off) (nB.out _)).cell 3,T.1.h3⟩
     | go_keep)
    (first | (go_at_call 139;refine Q.out.mono ?_;rintro e w1 ⟨rfl,S⟩) | (go_at_call 138;refine (after_140 _ _ _ _ (S.1.k140 (S.keep HA.out.blk HA.out.off) (S.keep HB.out.blk HB.out.off))).mono ?_;rintro e w2 ⟨rfl,T⟩))
   all_goals
    go_wp2;go_returns
    exact ⟨rfl,T.1.close (((HL.out.drewN 1).trans ⟨S.2,fun _ e=>e⟩).trans ⟨T.2,fun _ e=>e⟩) H0.out⟩
  ·rw [if_neg e2]
   go_enter func85,ntmps85
   go_wp2_with fail
   go_region_held3 (fun w'=>w'.cell? ⟨w.heap.size,0,none⟩=some (.pointer (some ⟨p,0,none⟩))∧w'.cell? ⟨w.heap.size+1,2,none⟩=some (.int .i64 id)∧w'.cell? ⟨w.heap.size+1,3,none⟩=some (.int .u64 m)∧w'.cell? ⟨p,3,none⟩=some (.pointer (some ⟨f.pt 3,0,none⟩)))
    (first
     | exact ⟨a0,b2,b3,c3⟩
     | exact ⟨(S.keep HA.out.blk HA.out.off).cell 0,(S.keep HB.out.blk HB.out.off).cell 2,(S.keep HB.out.blk HB.out.off).cell 3,S.1.h3⟩
     | exact ⟨(S.keep HA.out.blk HA.out.off).cell 0,(S.keep HB.out.blk HB.out.off).cell 2,(S.keep HB.out.blk HB.out.off).cell 3,S.1.h3⟩
     | go_keep)
    (first | (go_at_call 139;refine Q.out.mono ?_;rintro e w1 ⟨rfl,S⟩) | (go_at_call 138;refine (after_no _ _ e2 _).mono ?_;rintro e w2 ⟨rfl,rfl⟩))
   all_goals
    go_wp2;go_returns
    exact ⟨rfl,S.1.close ((HL.out.drewN 1).trans ⟨S.2,fun _ e=>e⟩) H0.out⟩
 rw [if_neg h12]
 have g12:(kind == 12)=false:=by simpa using h12
 by_cases h13:kind=13
 ·subst h13
  rw [if_pos rfl];clear h12 g12
  have Q:=(HK.out.drewN 1).kifree id
  obtain ⟨u,hu⟩:∃ u,u=irqTurn k.iq id (fun _=>noIrq):=⟨_,rfl⟩
  rw [← hu] at Q ⊢;obtain ⟨q1,q2⟩:=u;dsimp only at Q ⊢;replace Q:=Hd Q;replace hu:=Hd hu
  by_cases e2:q2=0
  ·subst e2
   rw [if_pos rfl]
   go_enter func85,ntmps85
   go_wp2_with fail
   go_region_held3 (fun w'=>w'.cell? ⟨w.heap.size,0,none⟩=some (.pointer (some ⟨p,0,none⟩))∧w'.cell? ⟨w.heap.size+1,2,none⟩=some (.int .i64 id)∧w'.cell? ⟨p,3,none⟩=some (.pointer (some ⟨f.pt 3,0,none⟩)))
    (first
     | exact ⟨a0,b2,c3⟩
     | exact ⟨(S.keep HA.out.blk HA.out.off).cell 0,(S.keep HB.out.blk HB.out.off).cell 2,S.1.h3⟩
     | exact ⟨(T.keep (S.keep HA.out.blk HA.out.off) (nA.out _)).cell 0,(T.keep (S.keep HB.out.blk HB.out.off) (nB.out _)).cell 2,T.1.h3⟩
     | go_keep)
    (first | (go_at_call 142;refine Q.out.mono ?_;rintro e w1 ⟨rfl,S⟩) | (go_at_call 138;refine (after_143 _ _ _ _ (S.1.k143 (S.keep HA.out.blk HA.out.off) (S.keep HB.out.blk HB.out.off))).mono ?_;rintro e w2 ⟨rfl,T⟩))
   all_goals
    go_wp2;go_returns
    exact ⟨rfl,T.1.close (((HL.out.drewN 1).trans ⟨S.2,fun _ e=>e⟩).trans ⟨T.2,fun _ e=>e⟩) H0.out⟩
  ·rw [if_neg e2]
   go_enter func85,ntmps85
   go_wp2_with fail
   go_region_held3 (fun w'=>w'.cell? ⟨w.heap.size,0,none⟩=some (.pointer (some ⟨p,0,none⟩))∧w'.cell? ⟨w.heap.size+1,2,none⟩=some (.int .i64 id)∧w'.cell? ⟨p,3,none⟩=some (.pointer (some ⟨f.pt 3,0,none⟩)))
    (first
     | exact ⟨a0,b2,c3⟩
     | exact ⟨(S.keep HA.out.blk HA.out.off).cell 0,(S.keep HB.out.blk HB.out.off).cell 2,S.1.h3⟩
     | exact ⟨(S.keep HA.out.blk HA.out.off).cell 0,(S.keep HB.out.blk HB.out.off).cell 2,S.1.h3⟩
     | go_keep)
    (first | (go_at_call 142;refine Q.out.mono ?_;rintro e w1 ⟨rfl,S⟩) | (go_at_call 138;refine (after_no _ _ e2 _).mono ?_;rintro e w2 ⟨rfl,rfl⟩))
   all_goals
    go_wp2;go_returns
    exact ⟨rfl,S.1.close ((HL.out.drewN 1).trans ⟨S.2,fun _ e=>e⟩) H0.out⟩
 rw [if_neg h13]
 have g13:(kind == 13)=false:=by simpa using h13
 by_cases h14:kind=14
 ·subst h14
  rw [if_pos rfl];clear h12 g12 h13 g13
  have Q:=(HK.out.drewN 1).kiaim id m hm.out
  obtain ⟨u,hu⟩:∃ u,u=irqAim k.iq id m:=⟨_,rfl⟩
  rw [← hu] at Q ⊢;obtain ⟨q1,q2⟩:=u;dsimp only at Q ⊢;replace Q:=Hd Q;replace hu:=Hd hu
  by_cases e2:q2=0
  ·subst e2
   rw [if_pos rfl]
   go_enter func85,ntmps85
   go_wp2_with fail
   go_region_held3 (fun w'=>w'.cell? ⟨w.heap.size,0,none⟩=some (.pointer (some ⟨p,0,none⟩))∧w'.cell? ⟨w.heap.size+1,2,none⟩=some (.int .i64 id)∧w'.cell? ⟨w.heap.size+1,3,none⟩=some (.int .u64 m)∧w'.cell? ⟨p,3,none⟩=some (.pointer (some ⟨f.pt 3,0,none⟩)))
    (first
     | exact ⟨a0,b2,b3,c3⟩
     | exact ⟨(S.keep HA.out.blk HA.out.off).cell 0,(S.keep HB.out.blk HB.out.off).cell 2,(S.keep HB.out.blk HB.out.off).cell 3,S.1.h3⟩
     | exact ⟨(T.keep (S.keep HA.out.blk HA.out.off) (nA.out _)).cell 0,(T.keep (S.keep HB.out.blk HB.out.off) (nB.out _)).cell 2,(T.keep (S.keep HB.out.blk HB.out.off) (nB.out _)).cell 3,T.1.h3⟩
     | go_keep)
    (first | (go_at_call 145;refine Q.out.mono ?_;rintro e w1 ⟨rfl,S⟩) | (go_at_call 138;refine (after_146 _ _ _ _ (S.1.k146 (S.keep HA.out.blk HA.out.off) (S.keep HB.out.blk HB.out.off))).mono ?_;rintro e w2 ⟨rfl,T⟩))
   all_goals
    go_wp2;go_returns
    exact ⟨rfl,T.1.close (((HL.out.drewN 1).trans ⟨S.2,fun _ e=>e⟩).trans ⟨T.2,fun _ e=>e⟩) H0.out⟩
  ·rw [if_neg e2]
   go_enter func85,ntmps85
   go_wp2_with fail
   go_region_held3 (fun w'=>w'.cell? ⟨w.heap.size,0,none⟩=some (.pointer (some ⟨p,0,none⟩))∧w'.cell? ⟨w.heap.size+1,2,none⟩=some (.int .i64 id)∧w'.cell? ⟨w.heap.size+1,3,none⟩=some (.int .u64 m)∧w'.cell? ⟨p,3,none⟩=some (.pointer (some ⟨f.pt 3,0,none⟩)))
    (first
     | exact ⟨a0,b2,b3,c3⟩
     | exact ⟨(S.keep HA.out.blk HA.out.off).cell 0,(S.keep HB.out.blk HB.out.off).cell 2,(S.keep HB.out.blk HB.out.off).cell 3,S.1.h3⟩
     | exact ⟨(S.keep HA.out.blk HA.out.off).cell 0,(S.keep HB.out.blk HB.out.off).cell 2,(S.keep HB.out.blk HB.out.off).cell 3,S.1.h3⟩
     | go_keep)
    (first | (go_at_call 145;refine Q.out.mono ?_;rintro e w1 ⟨rfl,S⟩) | (go_at_call 138;refine (after_no _ _ e2 _).mono ?_;rintro e w2 ⟨rfl,rfl⟩))
   all_goals
    go_wp2;go_returns
    exact ⟨rfl,S.1.close ((HL.out.drewN 1).trans ⟨S.2,fun _ e=>e⟩) H0.out⟩
 rw [if_neg h14]
 have g14:(kind == 14)=false:=by simpa using h14
 by_cases h15:kind=15
 ·subst h15
  rw [if_pos rfl];clear h12 g12 h13 g13 h14 g14
  have Q:=fun n=>Hd ((HK.out.drewN n).kihush1 id)
  go_enter func85,ntmps85
  go_wp2
  refine region_tailC (C:=fun w'=>∃ k,w'=(((w.alloc (.cells #[.pointer (some ⟨p,0,none⟩)] 23)).alloc (.cells #[.int .i64 15,.int .i64 cpu,.int .i64 id,.int .u64 m,.int .i64 n] 39))).drewN k) 7 ?_ ?_ ?_ ?_;(kernel_rfl);(kernel_rfl);(first | exact cls0 _ | exact clsN _ _);simp only [List.take_succ_cons,List.take_zero,List.drop_succ_cons,List.drop_zero];(repeat (go_big_quiet_step (fail)));refine wpQuiet_nil ?_;rintro _ ⟨nq,rfl⟩
  go_wp2_with fail;refine (Q nq).out.mono ?_;rintro e w1 ⟨rfl,S⟩;clear Q c3 a0 b2;replace HL:=Hd (HL.out.drewN nq);replace HK:=Hd (HK.out.drewN nq);replace S:=S.nx HL.out;clear HL HK;obtain ⟨F1,HK,HL⟩:=S
  try dsimp only at HK
  go_wp2;go_returns
  exact ⟨rfl,HK.out.close HL.out H0.out⟩
 rw [if_neg h15]
 have g15:(kind == 15)=false:=by simpa using h15
 by_cases h16:kind=16
 ·subst h16
  rw [if_pos rfl];clear h12 g12 h13 g13 h14 g14 h15 g15
  have Q:=fun n=>Hd ((HK.out.drewN n).kihush0 id)
  go_enter func85,ntmps85
  go_wp2
  refine region_tailC (C:=fun w'=>∃ k,w'=(((w.alloc (.cells #[.pointer (some ⟨p,0,none⟩)] 23)).alloc (.cells #[.int .i64 16,.int .i64 cpu,.int .i64 id,.int .u64 m,.int .i64 n] 39))).drewN k) 7 ?_ ?_ ?_ ?_;(kernel_rfl);(kernel_rfl);(first | exact cls0 _ | exact clsN _ _);simp only [List.take_succ_cons,List.take_zero,List.drop_succ_cons,List.drop_zero];(repeat (go_big_quiet_step (fail)));refine wpQuiet_nil ?_;rintro _ ⟨nq,rfl⟩
  go_wp2_with fail;refine (Q nq).out.mono ?_;rintro e w1 ⟨rfl,S⟩;clear Q c3 a0 b2;replace HL:=Hd (HL.out.drewN nq);replace HK:=Hd (HK.out.drewN nq);replace S:=S.nx HL.out;clear HL HK;obtain ⟨F1,HK,HL⟩:=S
  try dsimp only at HK
  go_wp2;go_returns
  exact ⟨rfl,HK.out.close HL.out H0.out⟩
 rw [if_neg h16]
 have g16:(kind == 16)=false:=by simpa using h16
 have Q:=fun n=>Hd ((HK.out.drewN n).kiraise id)
 go_enter func85,ntmps85
 go_wp2
 refine region_tailC (C:=fun w'=>∃ k,w'=(((w.alloc (.cells #[.pointer (some ⟨p,0,none⟩)] 23)).alloc (.cells #[.int .i64 kind,.int .i64 cpu,.int .i64 id,.int .u64 m,.int .i64 n] 39))).drewN k) 7 ?_ ?_ ?_ ?_;(kernel_rfl);(kernel_rfl);(first | exact cls0 _ | exact clsN _ _);simp only [List.take_succ_cons,List.take_zero,List.drop_succ_cons,List.drop_zero];(repeat (go_big_quiet_step (fail)));refine wpQuiet_nil ?_;rintro _ ⟨nq,rfl⟩
 go_wp2_with fail;refine (Q nq).out.mono ?_;rintro e w1 ⟨rfl,S⟩;clear Q c3 a0 b2;replace HL:=Hd (HL.out.drewN nq);replace HK:=Hd (HK.out.drewN nq);replace S:=S.nx HL.out;clear HL HK;obtain ⟨F1,HK,HL⟩:=S
 try dsimp only at HK
 go_wp2;go_returns
 exact ⟨rfl,HK.out.close HL.out H0.out⟩
end
end Go.Proofs.YtiocbpabbjgkhaaGreatDoor
