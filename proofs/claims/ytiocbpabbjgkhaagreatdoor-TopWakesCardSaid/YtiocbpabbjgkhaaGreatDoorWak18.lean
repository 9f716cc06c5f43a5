/- Part 18 of the proof: contracts and plain laws, each under the conditions that it names. -/
import Derived.Test.YtiocbpabbjgkhaaGreatDoorPow17
import Derived.Lib.ItoaNum
set_option maxRecDepth 100000
set_option maxHeartbeats 20000000
set_option linter.unusedVariables false
set_option linter.unusedSimpArgs false
namespace Go.Proofs.YtiocbpabbjgkhaaGreatDoor
open Go.RowKit Go.Proofs.Tryz
variable {w w' : World} {F : Nat → Prop} {p : Nat} {f : KF} {k : K}
section
open Go.Proofs.YtiocbpabbjgkhaaGreatDoor.NumD
theorem orF_lt (m:Nat) (hm:m < top64) (c:Int):m ||| oneF c < top64:=Nat.or_lt_two_pow (n:=64) hm (oneF_lt c)
def kUndo (k:K) (up:Bool) (stage cpu:Int):K :=
 if up=true∧stage=1 then { k with co:=(coreSet k.co cpu (powerF false)).1 } else
 if up=false∧stage=1 then { k with active:=k.active ||| oneF cpu } else k
theorem KAt.kundo (h:KAt w F p f k) (up:Bool) (stage cpu:Int):Calls prog 263 #[.pointer (some ⟨p,0,none⟩),.bool up,.int .i64 stage,.int .i64 cpu] w fun e w'=>e=.returned (.tuple #[])∧KS w w' F p f (kUndo k up stage cpu):=by
 have H0:=Hd h;have HK:=Hd h;have HL:=Hd (Lk.refl w F);clear h;unfold kUndo
 by_cases hs:stage=1
 ·subst hs
  cases up with
  | true =>
   rw [if_pos ⟨rfl,rfl⟩]
   go_enter func263,ntmps263
   have P:=Hd (HK.out.kcpower cpu false);have c12:=HK.out.h12;go_wp2_with fail;refine P.out.mono ?_;rintro e w1 ⟨rfl,S⟩;clear P c12;replace S:=S.nx HL.out;clear HL HK;obtain ⟨F1,HK,HL⟩:=S
   try dsimp only at HK
   go_wp2;go_end0
   exact ⟨rfl,HK.out.close HL.out H0.out⟩
  | false =>
   have e1:¬ (false=true∧(1:Int)=1):=fun e=>absurd e.1 (by decide)
   rw [if_neg e1,if_pos ⟨rfl,rfl⟩];clear e1
   go_enter func263,ntmps263
   have c17:=HK.out.hac
   have A:=Hd (with_one k.active HK.out.ac cpu (w.alloc (.cells #[.int .i64 cpu] 3)) w.heap.size 1 ((Blk.new w #[.int .i64 cpu] 3).cell 0))
   have fr:=(HK.out.alloc (.cells #[.int .i64 cpu] 3)).frozen 17
   have d17:=(HK.out.alloc (.cells #[.int .i64 cpu] 3)).hac
   clear c17;have c17:=HK.out.hac
   have S:=(HK.out.alloc (.cells #[.int .i64 cpu] 3)).set_active (k.active ||| oneF cpu) (orF_lt _ HK.out.ac cpu)
   replace HL:=Hd (HL.out.alloc (.cells #[.int .i64 cpu] 3))
   go_wp2_with fail;refine A.out.mono ?_;rintro e w1 ⟨rfl,rfl⟩;clear A;go_wp2;replace S:=S.nx HL.out;clear HL HK;obtain ⟨F1,HK,HL⟩:=S
   try dsimp only at HK
   go_end0
   exact ⟨rfl,HK.out.close HL.out H0.out⟩
 ·rw [if_neg (fun e=>hs e.2),if_neg (fun e=>hs e.2)]
  have hb:(stage == 1)=false:=by simpa using hs
  cases up
  all_goals
   go_enter func263,ntmps263
   go_wp2;go_end0
   exact ⟨rfl,HK.out.close HL.out H0.out⟩
def kRequestBad (k:K) (up:Bool) (cpu:Int):Option Int :=
 if cpu < 0∨(k.cpus:Int)≤cpu then some 3 else
 if deskBusy k.dk then some 7 else
 if up && hasF k.online cpu then some 8 else
 if !up && !hasF k.online cpu then some 9 else
 if !up && manyF k.online == 1 then some 10 else none
def kRequest (k:K) (up:Bool) (cpu:Int):K :=
 match kRequestBad k up cpu with
 | some _=>k
 | none=>{ k with gt:=(gateWant k.gt).1,dk:=(deskBegin k.dk up cpu (firstF (notF k.active (oneF cpu))).1).1 }
def kRequestR (k:K) (up:Bool) (cpu:Int):Int :=
 match kRequestBad k up cpu with
 | some n=>n
 | none=>(deskBegin k.dk up cpu (firstF (notF k.active (oneF cpu))).1).2
theorem KAt.krequest (h:KAt w F p f k) (up:Bool) (cpu:Int):Calls prog 88 #[.pointer (some ⟨p,0,none⟩),.bool up,.int .i64 cpu] w fun e w'=>e=.returned (.int .i64 (kRequestR k up cpu))∧KS w w' F p f (kRequest k up cpu):=by
 have A:=has_any k.online h.on cpu w
 have B:=h.kdbusy
 have C:=many_any k.online h.on w
 have D:=less_any k.active h.ac cpu w
 have E:=first_any (notF k.active (oneF cpu)) (notF_lt _ _ h.ac) w h.tab
 have c16:=h.hon;have c15:=h.hcp;have c11:=h.h11;have c17:=h.hac;have H0:=Hd h;have HK:=Hd h;have HL:=Hd (Lk.refl w F);clear h;unfold kRequestR kRequest kRequestBad
 obtain ⟨on,hon⟩:∃ v,v=hasF k.online cpu:=⟨_,rfl⟩
 rw [← hon] at A ⊢
 obtain ⟨bu,hbu⟩:∃ v,v=deskBusy k.dk:=⟨_,rfl⟩
 rw [← hbu] at B ⊢
 obtain ⟨mn,hmn⟩:∃ v,v=manyF k.online:=⟨_,rfl⟩
 rw [← hmn] at C ⊢
 obtain ⟨fi,hfi⟩:∃ v,v=firstF (notF k.active (oneF cpu)):=⟨_,rfl⟩
 rw [← hfi] at E ⊢;obtain ⟨by2,why⟩:=fi;dsimp only at E ⊢
 obtain ⟨cpus,hcp⟩:∃ c:Int,c=k.cpus:=⟨_,rfl⟩
 rw [← hcp] at c15 ⊢;clear hon hbu hmn hfi hcp;replace A:=Hd A;replace B:=Hd B;replace C:=Hd C;replace D:=Hd D;replace E:=Hd E
 by_cases h1:cpu < 0
 ·rw [if_pos (.inl h1)]
  dsimp only
  go_enter func88,ntmps88
  go_wp2_with fail;refine A.out.mono ?_;rintro e w1 ⟨rfl,rfl⟩;go_wp2;go_returns
  exact ⟨rfl,HK.out.close HL.out H0.out⟩
 by_cases h2:cpus≤cpu
 ·rw [if_pos (.inr h2)]
  dsimp only
  go_enter func88,ntmps88
  go_wp2_with fail;refine A.out.mono ?_;rintro e w1 ⟨rfl,rfl⟩;go_wp2;go_returns
  exact ⟨rfl,HK.out.close HL.out H0.out⟩
 rw [if_neg (by omega)]
 cases bu with
 | true =>
  rw [if_pos rfl];dsimp only
  go_enter func88,ntmps88
  go_wp2_with fail;refine A.out.mono ?_;rintro e w1 ⟨rfl,rfl⟩;go_wp2_with fail;refine B.out.mono ?_;rintro e w1 ⟨rfl,rfl⟩;go_wp2;go_returns
  exact ⟨rfl,HK.out.close HL.out H0.out⟩
 | false =>
  rw [if_neg (by decide)]
  cases up with
  | true =>
   cases on with
   | true =>
    simp only [Bool.and_self,if_true]
    go_enter func88,ntmps88
    go_wp2_with fail;refine A.out.mono ?_;rintro e w1 ⟨rfl,rfl⟩;go_wp2_with fail;refine B.out.mono ?_;rintro e w1 ⟨rfl,rfl⟩;go_wp2;go_returns
    exact ⟨rfl,HK.out.close HL.out H0.out⟩
   | false =>
    simp only [Bool.and_false,Bool.not_true,Bool.false_and,Bool.false_eq_true,if_false]
    go_enter func88,ntmps88
    go_wp2_with fail;refine A.out.mono ?_;rintro e w1 ⟨rfl,rfl⟩;go_wp2_with fail;refine B.out.mono ?_;rintro e w1 ⟨rfl,rfl⟩;go_wp2_with fail;refine D.out.mono ?_;rintro e w1 ⟨rfl,rfl⟩;go_wp2_with fail;refine E.out.mono ?_;rintro e w1 ⟨rfl,rfl⟩;clear A B D E c11 c17 c15 c16;have P:=Hd (HK.out.kgwant);have c9:=HK.out.h9;go_wp2_with fail;refine P.out.mono ?_;rintro e w1 ⟨rfl,S⟩;clear P c9;replace S:=S.nx HL.out;clear HL HK;obtain ⟨F1,HK,HL⟩:=S
    try dsimp only at HK
    have P:=Hd (HK.out.kdbegin true cpu by2);have c11:=HK.out.h11;go_wp2_with fail;refine P.out.mono ?_;rintro e w1 ⟨rfl,S⟩;clear P c11;replace S:=S.nx HL.out;clear HL HK;obtain ⟨F1,HK,HL⟩:=S
    try dsimp only at HK
    go_wp2;go_returns
    exact ⟨rfl,HK.out.close HL.out H0.out⟩
  | false =>
   cases on with
   | false =>
    simp only [Bool.false_and,Bool.not_false,Bool.and_self,Bool.false_eq_true,if_false,if_true]
    go_enter func88,ntmps88
    go_wp2_with fail;refine A.out.mono ?_;rintro e w1 ⟨rfl,rfl⟩;go_wp2_with fail;refine B.out.mono ?_;rintro e w1 ⟨rfl,rfl⟩;go_wp2;go_returns
    exact ⟨rfl,HK.out.close HL.out H0.out⟩
   | true =>
    simp only [Bool.false_and,Bool.not_false,Bool.not_true,Bool.and_false,Bool.true_and,Bool.false_eq_true,if_false]
    by_cases hm:mn=1
    ·subst hm
     rw [if_pos (by decide)]
     go_enter func88,ntmps88
     go_wp2_with fail;refine A.out.mono ?_;rintro e w1 ⟨rfl,rfl⟩;go_wp2_with fail;refine B.out.mono ?_;rintro e w1 ⟨rfl,rfl⟩;go_wp2_with fail;refine C.out.mono ?_;rintro e w1 ⟨rfl,rfl⟩;go_wp2;go_returns
     exact ⟨rfl,HK.out.close HL.out H0.out⟩
    ·have hb:(mn == 1)=false:=by simpa using hm
     rw [if_neg (by rw [hb];decide)]
     go_enter func88,ntmps88
     go_wp2_with fail;refine A.out.mono ?_;rintro e w1 ⟨rfl,rfl⟩;go_wp2_with fail;refine B.out.mono ?_;rintro e w1 ⟨rfl,rfl⟩;go_wp2_with fail;refine C.out.mono ?_;rintro e w1 ⟨rfl,rfl⟩;go_wp2_with fail;refine D.out.mono ?_;rintro e w1 ⟨rfl,rfl⟩;go_wp2_with fail;refine E.out.mono ?_;rintro e w1 ⟨rfl,rfl⟩;clear A B D E c11 c17 c15 c16;have P:=Hd (HK.out.kgwant);have c9:=HK.out.h9;go_wp2_with fail;refine P.out.mono ?_;rintro e w1 ⟨rfl,S⟩;clear P c9;replace S:=S.nx HL.out;clear HL HK;obtain ⟨F1,HK,HL⟩:=S
     try dsimp only at HK
     have P:=Hd (HK.out.kdbegin false cpu by2);have c11:=HK.out.h11;go_wp2_with fail;refine P.out.mono ?_;rintro e w1 ⟨rfl,S⟩;clear P c11;replace S:=S.nx HL.out;clear HL HK;obtain ⟨F1,HK,HL⟩:=S
     try dsimp only at HK
     go_wp2;go_returns
     exact ⟨rfl,HK.out.close HL.out H0.out⟩
end
section
open Go.Proofs.YtiocbpabbjgkhaaGreatDoor.NumD
structure Ev where
 kind:Int
 cpu:Int
 id:Int
 mask:Nat
 n:Int
def evC (e:Ev):Array Value:=#[.int .i64 e.kind,.int .i64 e.cpu,.int .i64 e.id,.int .u64 e.mask,.int .i64 e.n]
def kPlaced (k:K) (e:Ev):K × List Rec :=
 if kOf k e.cpu≠0 then (k,ansF 0 (kOf k e.cpu)) else
 if e.kind=10 then (kArm k e.cpu e.n,ansF (kArmR k e.cpu e.n).1 (kArmR k e.cpu e.n).2) else
 if e.kind=18 then ({ k with wk:=(worksQueue k.wk e.cpu).1 },ansF (worksQueue k.wk e.cpu).2.1 (worksQueue k.wk e.cpu).2.2) else
 if e.kind=20 then ({ k with cl:=(boxSend k.cl e.cpu).1 },ansF (boxSend k.cl e.cpu).2.1 (boxSend k.cl e.cpu).2.2) else
 if e.kind=21 then ({ k with ob:=(stashAlloc k.ob e.cpu).1 },ansF (stashAlloc k.ob e.cpu).2.1 (stashAlloc k.ob e.cpu).2.2) else
 if e.kind=22 then ({ k with ob:=(stashGive k.ob e.cpu e.id).1 },ansF 0 (stashGive k.ob e.cpu e.id).2) else
 ({ k with gt:=(gateEnter k.gt e.cpu).1 },ansF 0 (gateEnter k.gt e.cpu).2)
theorem KAt.kplaced (h:KAt w F p f k) (hf:fewT k.tm) (e:Ev) (hn:In64 e.n):Calls prog 87 #[.pointer (some ⟨p,0,none⟩),.agg (evC e)] w fun r w'=>KR w F p f (kPlaced k e).1 (kPlaced k e).2 r w':=by
 replace hf:=Hd hf;replace hn:=Hd hn;have H0:=Hd h;have HK:=Hd h;have HL:=Hd (Lk.refl w F);clear h;obtain ⟨kind,cpu,id,mask,n⟩:=e;unfold kPlaced evC;dsimp only at hn ⊢
 have HX:=HK.out.bx HL.out #[.int .i64 kind,.int .i64 cpu,.int .i64 id,.int .u64 mask,.int .i64 n] 39
 clear HL HK;obtain ⟨HB,HK,HL⟩:=HX;have b0:=HB.out.cell 0;have b1:=HB.out.cell 1;have b2:=HB.out.cell 2;have b4:=HB.out.cell 4
 have A:=HK.out.kof cpu
 obtain ⟨o,ho⟩:∃ o,o=kOf k cpu:=⟨_,rfl⟩
 rw [← ho] at A ⊢;replace A:=Hd A;clear ho
 by_cases h0:o=0
 ·subst h0
  rw [if_neg (show ¬ ((0:Int)≠0) by decide)]
  by_cases h1:kind=10
  ·subst h1
   rw [if_pos rfl]
   go_enter func87,ntmps87
   go_wp2_with fail;refine A.out.mono ?_;rintro e w1 ⟨rfl,rfl⟩;have P:=Hd (HK.out.karm hf.out cpu n hn.out);go_wp2_with fail;refine P.out.mono ?_;rintro e w1 ⟨rfl,S⟩;clear P;obtain ⟨F1,L1,K1⟩:=S.open;clear S
   try dsimp only at K1
   replace HB:=Hd (HB.out.lk L1);replace HL:=Hd (HL.out.trans L1);replace HK:=Hd K1;clear L1 K1
   have P:=Hd (kanswer H0.out HL.out HK.out (kArmR k cpu n).1 (kArmR k cpu n).2)
   go_wp2_with fail;refine P.out.mono ?_;rintro e w1 ⟨⟨v,rfl,hv⟩,S⟩;replace hv:=Hd hv;clear P;go_wp2;go_returns
   exact ⟨⟨_,rfl,hv.out⟩,S⟩
  rw [if_neg h1]
  have g1:(kind == 10)=false:=by simpa using h1
  by_cases h2:kind=18
  ·subst h2
   rw [if_pos rfl];clear h1 g1
   go_enter func87,ntmps87
   go_wp2_with fail;refine A.out.mono ?_;rintro e w1 ⟨rfl,rfl⟩;replace HB:=Hd (HB.out.drewN 1);replace HL:=Hd (HL.out.drewN 1);replace HK:=Hd (HK.out.drewN 1);have c5:=HK.out.h5
   replace b1:=HB.out.cell 1
   replace b2:=HB.out.cell 2
   have Q:=Hd (HK.out.klqueue cpu);clear b0 b4;go_wp2_with fail
   go_region_held3 (fun w'=>w'.cell? ⟨p,5,none⟩=some (.pointer (some ⟨f.pt 5,0,none⟩))∧w'.cell? ⟨w.heap.size,1,none⟩=some (.int .i64 cpu))
    (first
     | exact ⟨c5,b1⟩
     | exact ⟨S.1.h5,(S.keep HB.out.blk HB.out.off).cell 1⟩
     | exact ⟨keepcell hb S.1.h5,keepcell hb ((S.keep HB.out.blk HB.out.off).cell 1)⟩
     | (go_split_ands;refine ⟨?_,?_⟩ <;> first | exact S.1.h5 | exact (S.keep HB.out.blk HB.out.off).cell 1 | exact keepcell hb S.1.h5 | exact keepcell hb ((S.keep HB.out.blk HB.out.off).cell 1) | exact c5 | exact b1)
     | go_keep)
    (first
     | (go_at_call 86;refine Q.out.mono ?_;rintro e w1 ⟨rfl,S⟩)
     | (go_at_call 82;refine (answer_any _ _ _).mono ?_;rintro e w2 ⟨⟨v,rfl,hv⟩,hb⟩))
   replace hv:=Hd hv;obtain ⟨F1,L1,K1⟩:=S.open;clear S
   try dsimp only at K1
   replace HB:=Hd (HB.out.lk L1);replace HL:=Hd (HL.out.trans L1);replace HK:=Hd K1;clear L1 K1;replace hv:=Hd (RecsK.of HL.out HK.out hb hv.out);have S:=hb
   replace HB:=Hd (HB.out.lk (Lk.of_below S))
   replace HL:=Hd (HL.out.below S);replace HK:=Hd (HK.out.below S);clear S;clear hb;go_wp2;go_returns
   exact ⟨⟨_,rfl,hv.out⟩,HK.out.close HL.out H0.out⟩
  rw [if_neg h2]
  have g2:(kind == 18)=false:=by simpa using h2
  by_cases h3:kind=20
  ·subst h3
   rw [if_pos rfl];clear h1 g1 h2 g2
   go_enter func87,ntmps87
   go_wp2_with fail;refine A.out.mono ?_;rintro e w1 ⟨rfl,rfl⟩;replace HB:=Hd (HB.out.drewN 1);replace HL:=Hd (HL.out.drewN 1);replace HK:=Hd (HK.out.drewN 1);have c6:=HK.out.h6
   replace b1:=HB.out.cell 1
   replace b2:=HB.out.cell 2
   have Q:=Hd (HK.out.kbsend cpu);clear b0 b4;go_wp2_with fail
   go_region_held3 (fun w'=>w'.cell? ⟨p,6,none⟩=some (.pointer (some ⟨f.pt 6,0,none⟩))∧w'.cell? ⟨w.heap.size,1,none⟩=some (.int .i64 cpu))
    (first
     | exact ⟨c6,b1⟩
     | exact ⟨S.1.h6,(S.keep HB.out.blk HB.out.off).cell 1⟩
     | exact ⟨keepcell hb S.1.h6,keepcell hb ((S.keep HB.out.blk HB.out.off).cell 1)⟩
     | (go_split_ands;refine ⟨?_,?_⟩ <;> first | exact S.1.h6 | exact (S.keep HB.out.blk HB.out.off).cell 1 | exact keepcell hb S.1.h6 | exact keepcell hb ((S.keep HB.out.blk HB.out.off).cell 1) | exact c6 | exact b1)
     | go_keep)
    (first
     | (go_at_call 157;refine Q.out.mono ?_;rintro e w1 ⟨rfl,S⟩)
     | (go_at_call 82;refine (answer_any _ _ _).mono ?_;rintro e w2 ⟨⟨v,rfl,hv⟩,hb⟩))
   replace hv:=Hd hv;obtain ⟨F1,L1,K1⟩:=S.open;clear S
   try dsimp only at K1
   replace HB:=Hd (HB.out.lk L1);replace HL:=Hd (HL.out.trans L1);replace HK:=Hd K1;clear L1 K1;replace hv:=Hd (RecsK.of HL.out HK.out hb hv.out);have S:=hb
   replace HB:=Hd (HB.out.lk (Lk.of_below S))
   replace HL:=Hd (HL.out.below S);replace HK:=Hd (HK.out.below S);clear S;clear hb;go_wp2;go_returns
   exact ⟨⟨_,rfl,hv.out⟩,HK.out.close HL.out H0.out⟩
  rw [if_neg h3]
  have g3:(kind == 20)=false:=by simpa using h3
  by_cases h4:kind=21
  ·subst h4
   rw [if_pos rfl];clear h1 g1 h2 g2 h3 g3
   go_enter func87,ntmps87
   go_wp2_with fail;refine A.out.mono ?_;rintro e w1 ⟨rfl,rfl⟩;replace HB:=Hd (HB.out.drewN 1);replace HL:=Hd (HL.out.drewN 1);replace HK:=Hd (HK.out.drewN 1);have c7:=HK.out.h7
   replace b1:=HB.out.cell 1
   replace b2:=HB.out.cell 2
   have Q:=Hd (HK.out.khalloc cpu);clear b0 b4;go_wp2_with fail
   go_region_held3 (fun w'=>w'.cell? ⟨p,7,none⟩=some (.pointer (some ⟨f.pt 7,0,none⟩))∧w'.cell? ⟨w.heap.size,1,none⟩=some (.int .i64 cpu))
    (first
     | exact ⟨c7,b1⟩
     | exact ⟨S.1.h7,(S.keep HB.out.blk HB.out.off).cell 1⟩
     | exact ⟨keepcell hb S.1.h7,keepcell hb ((S.keep HB.out.blk HB.out.off).cell 1)⟩
     | (go_split_ands;refine ⟨?_,?_⟩ <;> first | exact S.1.h7 | exact (S.keep HB.out.blk HB.out.off).cell 1 | exact keepcell hb S.1.h7 | exact keepcell hb ((S.keep HB.out.blk HB.out.off).cell 1) | exact c7 | exact b1)
     | go_keep)
    (first
     | (go_at_call 158;refine Q.out.mono ?_;rintro e w1 ⟨rfl,S⟩)
     | (go_at_call 82;refine (answer_any _ _ _).mono ?_;rintro e w2 ⟨⟨v,rfl,hv⟩,hb⟩))
   replace hv:=Hd hv;obtain ⟨F1,L1,K1⟩:=S.open;clear S
   try dsimp only at K1
   replace HB:=Hd (HB.out.lk L1);replace HL:=Hd (HL.out.trans L1);replace HK:=Hd K1;clear L1 K1;replace hv:=Hd (RecsK.of HL.out HK.out hb hv.out);have S:=hb
   replace HB:=Hd (HB.out.lk (Lk.of_below S))
   replace HL:=Hd (HL.out.below S);replace HK:=Hd (HK.out.below S);clear S;clear hb;go_wp2;go_returns
   exact ⟨⟨_,rfl,hv.out⟩,HK.out.close HL.out H0.out⟩
  rw [if_neg h4]
  have g4:(kind == 21)=false:=by simpa using h4
  by_cases h5:kind=22
  ·subst h5
   rw [if_pos rfl];clear h1 g1 h2 g2 h3 g3 h4 g4
   go_enter func87,ntmps87
   go_wp2_with fail;refine A.out.mono ?_;rintro e w1 ⟨rfl,rfl⟩;replace HB:=Hd (HB.out.drewN 1);replace HL:=Hd (HL.out.drewN 1);replace HK:=Hd (HK.out.drewN 1);have c7:=HK.out.h7
   replace b1:=HB.out.cell 1
   replace b2:=HB.out.cell 2
   have Q:=Hd (HK.out.khgive cpu id);clear b0 b4;go_wp2_with fail
   go_region_held3 (fun w'=>w'.cell? ⟨p,7,none⟩=some (.pointer (some ⟨f.pt 7,0,none⟩))∧w'.cell? ⟨w.heap.size,1,none⟩=some (.int .i64 cpu)∧w'.cell? ⟨w.heap.size,2,none⟩=some (.int .i64 id))
    (first
     | exact ⟨c7,b1,b2⟩
     | exact ⟨S.1.h7,(S.keep HB.out.blk HB.out.off).cell 1,(S.keep HB.out.blk HB.out.off).cell 2⟩
     | exact ⟨keepcell hb S.1.h7,keepcell hb ((S.keep HB.out.blk HB.out.off).cell 1),keepcell hb ((S.keep HB.out.blk HB.out.off).cell 2)⟩
     | (go_split_ands;refine ⟨?_,?_,?_⟩ <;> first | exact S.1.h7 | exact (S.keep HB.out.blk HB.out.off).cell 1 | exact (S.keep HB.out.blk HB.out.off).cell 2 | exact keepcell hb S.1.h7 | exact keepcell hb ((S.keep HB.out.blk HB.out.off).cell 1) | exact keepcell hb ((S.keep HB.out.blk HB.out.off).cell 2) | exact c7 | exact b1 | exact b2)
     | go_keep)
    (first
     | (go_at_call 159;refine Q.out.mono ?_;rintro e w1 ⟨rfl,S⟩)
     | (go_at_call 79;refine (plain_any _ _).mono ?_;rintro e w2 ⟨⟨v,rfl,hv⟩,hb⟩))
   replace hv:=Hd hv;obtain ⟨F1,L1,K1⟩:=S.open;clear S
   try dsimp only at K1
   replace HB:=Hd (HB.out.lk L1);replace HL:=Hd (HL.out.trans L1);replace HK:=Hd K1;clear L1 K1;replace hv:=Hd (RecsK.of HL.out HK.out hb hv.out);have S:=hb
   replace HB:=Hd (HB.out.lk (Lk.of_below S))
   replace HL:=Hd (HL.out.below S);replace HK:=Hd (HK.out.below S);clear S;clear hb;go_wp2;go_returns
   exact ⟨⟨_,rfl,hv.out⟩,HK.out.close HL.out H0.out⟩
  rw [if_neg h5]
  have g5:(kind == 22)=false:=by simpa using h5
  go_enter func87,ntmps87
  go_wp2_with fail;refine A.out.mono ?_;rintro e w1 ⟨rfl,rfl⟩;replace HB:=Hd (HB.out.drewN 1);replace HL:=Hd (HL.out.drewN 1);replace HK:=Hd (HK.out.drewN 1);have c9:=HK.out.h9
  replace b1:=HB.out.cell 1
  replace b2:=HB.out.cell 2
  have Q:=Hd (HK.out.kgenter cpu);clear b0 b4;go_wp2_with fail
  go_region_held3 (fun w'=>w'.cell? ⟨p,9,none⟩=some (.pointer (some ⟨f.pt 9,0,none⟩))∧w'.cell? ⟨w.heap.size,1,none⟩=some (.int .i64 cpu))
   (first
    | exact ⟨c9,b1⟩
    | exact ⟨S.1.h9,(S.keep HB.out.blk HB.out.off).cell 1⟩
    | exact ⟨keepcell hb S.1.h9,keepcell hb ((S.keep HB.out.blk HB.out.off).cell 1)⟩
    | (go_split_ands;refine ⟨?_,?_⟩ <;> first | exact S.1.h9 | exact (S.keep HB.out.blk HB.out.off).cell 1 | exact keepcell hb S.1.h9 | exact keepcell hb ((S.keep HB.out.blk HB.out.off).cell 1) | exact c9 | exact b1)
    | go_keep)
   (first
    | (go_at_call 160;refine Q.out.mono ?_;rintro e w1 ⟨rfl,S⟩)
    | (go_at_call 79;refine (plain_any _ _).mono ?_;rintro e w2 ⟨⟨v,rfl,hv⟩,hb⟩))
  replace hv:=Hd hv;obtain ⟨F1,L1,K1⟩:=S.open;clear S
  try dsimp only at K1
  replace HB:=Hd (HB.out.lk L1);replace HL:=Hd (HL.out.trans L1);replace HK:=Hd K1;clear L1 K1;replace hv:=Hd (RecsK.of HL.out HK.out hb hv.out);have S:=hb
  replace HB:=Hd (HB.out.lk (Lk.of_below S))
  replace HL:=Hd (HL.out.below S);replace HK:=Hd (HK.out.below S);clear S;clear hb;go_wp2;go_returns
  exact ⟨⟨_,rfl,hv.out⟩,HK.out.close HL.out H0.out⟩
 ·rw [if_pos h0]
  have g0:(o == 0)=false:=by simpa using h0
  go_enter func87,ntmps87
  go_wp2_with fail;refine A.out.mono ?_;rintro e w1 ⟨rfl,rfl⟩;have P:=Hd (kplain H0.out HL.out HK.out o);go_wp2_with fail;refine P.out.mono ?_;rintro e w1 ⟨⟨v,rfl,hv⟩,S⟩;replace hv:=Hd hv;clear P;go_wp2;go_returns
  exact ⟨⟨_,rfl,hv.out⟩,S⟩
end
theorem KAt.kactive (h:KAt w F p f k):Calls prog 17 #[.pointer (some ⟨p,0,none⟩)] w fun e w'=>e=.returned (.int .u64 k.active)∧w=w':=by
 have c17:=h.hac;clear h
 go_enter func17,ntmps17
 go_wp2;go_returns
 exact ⟨rfl,rfl⟩
theorem KAt.konline (h:KAt w F p f k):Calls prog 76 #[.pointer (some ⟨p,0,none⟩)] w fun e w'=>e=.returned (.int .u64 k.online)∧w=w':=by
 have c16:=h.hon;clear h
 go_enter func76,ntmps76
 go_wp2;go_returns
 exact ⟨rfl,rfl⟩
section
theorem mget_none_iff {α:Type} {k:Int}:∀ {m:List (Int × α)},mget m k=none ↔ k ∉ m.map Prod.fst
 | []=>by simp [mget]
 | x::m=>by
  by_cases hk:x.1=k
  ·simp [mget,hk]
  ·have ih:=mget_none_iff (k:=k) (m:=m)
   simp only [mget,hk,if_false,ih,List.map_cons,List.mem_cons,not_or]
   exact ⟨fun h=>⟨fun e=>hk e.symm,h⟩,fun h=>h.2⟩
theorem mget_some_iff {α:Type} {k:Int} {m:List (Int × α)}:(mget m k).isSome=true ↔ k∈m.map Prod.fst:=by
 have h:=mget_none_iff (k:=k) (m:=m)
 cases hg:mget m k with
 | none=>simp [hg] at h ⊢;exact h
 | some v=>simp [hg] at h ⊢;exact h
theorem mdel_keys {α:Type} {k:Int}:∀ {m:List (Int × α)},(mdel m k).map Prod.fst=(m.map Prod.fst).erase k
 | []=>rfl
 | x::m=>by
  by_cases hk:x.1=k
  ·simp [mdel,hk]
  ·have hk':(x.1 == k)=false:=by simpa using hk
   simp only [mdel,hk,if_false,List.map_cons,List.erase_cons,hk',mdel_keys (m:=m)]
   simp
theorem mput_keys_new {α:Type} {k:Int} {v:α} {m:List (Int × α)} (h:mget m k=none):(mput m k v).map Prod.fst=m.map Prod.fst++[k]:=by
 rw [mput_new h]
 simp
theorem mput_keys_old {α:Type} {k:Int} {v:α}:∀ {m:List (Int × α)},(mget m k).isSome=true→(mput m k v).map Prod.fst=m.map Prod.fst
 | [],h=>by simp [mget] at h
 | x::m,h=>by
  by_cases hk:x.1=k
  ·simp [mput,hk]
  ·simp only [mput,hk,if_false,List.map_cons,mput_keys_old (m:=m) (by simpa [mget,hk] using h)]
theorem mdel_get {α:Type} {k:Int}:∀ {m:List (Int × α)},(m.map Prod.fst).Nodup→∀ j,mget (mdel m k) j=if k=j then none else mget m j
 | [],_,j=>by simp [mdel,mget]
 | x::m,hn,j=>by
  simp only [List.map_cons,List.nodup_cons] at hn
  by_cases hk:x.1=k
  ·simp only [mdel,hk,if_true,mget]
   by_cases hj:k=j
   ·simp only [hj,if_true]
    rw [← hj]
    exact mget_none_iff.2 (hk ▸ hn.1)
   ·simp [hj]
  ·simp only [mdel,hk,if_false,mget,mdel_get hn.2 j]
   by_cases hj:k=j
   ·simp only [hj,if_true]
    rw [hj] at hk
    simp [hk]
   ·simp [hj]
theorem mput_nodup {α:Type} {k:Int} {v:α} {m:List (Int × α)} (h:(m.map Prod.fst).Nodup):((mput m k v).map Prod.fst).Nodup:=by
 cases hg:mget m k with
 | none =>
  rw [mput_keys_new hg,List.nodup_append]
  refine ⟨h,by simp,fun a ha b hb e=>?_⟩
  have hb:b=k:=by simpa using hb
  subst e hb
  exact mget_none_iff.1 hg ha
 | some x=>rw [mput_keys_old (by simp [hg])];exact h
theorem mdel_nodup {α:Type} {k:Int} {m:List (Int × α)} (h:(m.map Prod.fst).Nodup):((mdel m k).map Prod.fst).Nodup:=by
 rw [mdel_keys]
 exact h.erase k
theorem mdel_mput {α:Type} {k:Int} {v:α}:∀ {m:List (Int × α)},(mget m k).isSome=true→mdel (mput m k v) k=mdel m k
 | [],h=>by simp [mget] at h
 | x::m,h=>by
  by_cases hk:x.1=k
  ·simp [mput,mdel,hk]
  ·simp only [mput,mdel,hk,if_false]
   rw [mdel_mput (m:=m) (by simpa [mget,hk] using h)]
theorem nodup_le {l:List Int} (h:l.Nodup) {n:Nat} (hl:∀ x∈l,1≤x∧x≤n):l.length≤n:=by
 induction n generalizing l with
 | zero =>
  cases l with
  | nil=>simp
  | cons a t=>have:=hl a (by simp);omega
 | succ n ih =>
  have h2:=ih (h.erase ((n:Int)+1)) (fun x hx=>by
   rw [h.mem_erase_iff] at hx
   have:=hl x hx.2
   have:=hx.1
   omega)
  rw [List.length_erase] at h2
  split at h2 <;> omega
theorem countP_one {p q:Nat→Bool} {c:Nat} (hp:p c=false) (hq:q c=true) (h:∀ i,i≠c→q i=p i):∀ n,c < n→(List.range n).countP q=(List.range n).countP p+1:=by
 have below:∀ n,n≤c→(List.range n).countP q=(List.range n).countP p:=by
  intro n
  induction n with
  | zero=>intro _;rfl
  | succ n ih =>
   intro hn
   rw [List.range_succ,List.countP_append,List.countP_append,ih (by omega)]
   simp [List.countP_cons,h n (by omega)]
 intro n
 induction n with
 | zero=>intro h0;omega
 | succ n ih =>
  intro hn
  rw [List.range_succ,List.countP_append,List.countP_append]
  by_cases e:n=c
  ·subst e
   rw [below n (Nat.le_refl _)]
   simp [List.countP_cons,hp,hq]
  ·rw [ih (by omega)]
   simp [List.countP_cons,h n e]
   omega
theorem countP_all {p:Nat→Bool} {n:Nat} (h:∀ i,i < n→p i=true):(List.range n).countP p=n:=by
 have:=(List.countP_eq_length (p:=p) (l:=List.range n)).2 (fun a ha=>h a (List.mem_range.1 ha))
 simpa using this
section
variable {α : Type}
theorem flatten_set [BEq α] [LawfulBEq α]:∀ (L:List (List α)) (i:Nat) (x:List α),i < L.length→((L.set i x).flatten++L.getD i []).Perm (L.flatten++x)
 | [],_,_,h=>by simp at h
 | a::L,0,x,_=>by
  simp only [List.set_cons_zero,List.flatten_cons,List.getD_cons_zero]
  rw [List.append_assoc,List.append_assoc]
  refine (List.perm_append_comm).trans ?_
  refine (List.Perm.append_right x List.perm_append_comm).trans ?_
  rw [List.append_assoc]
 | a::L,i+1,x,h=>by
  simp only [List.set_cons_succ,List.flatten_cons,List.getD_cons_succ]
  rw [List.append_assoc,List.append_assoc]
  exact (flatten_set L i x (by simpa using h)).append_left a
theorem mem_flat {L:List (List α)} {d:α}:d∈L.flatten ↔ ∃ i,i < L.length∧d∈L.getD i []:=by
 rw [List.mem_flatten]
 constructor
 ·rintro ⟨l,hl,hd⟩
  obtain ⟨i,hi,rfl⟩:=List.mem_iff_getElem.1 hl
  exact ⟨i,hi,by rw [List.getD_eq_getElem?_getD,List.getElem?_eq_getElem hi];exact hd⟩
 ·rintro ⟨i,hi,hd⟩
  rw [List.getD_eq_getElem?_getD,List.getElem?_eq_getElem hi] at hd
  exact ⟨_,List.getElem_mem hi,hd⟩
theorem sub_flat (L:List (List α)) (i:Nat):(L.getD i []).Sublist L.flatten:=by
 by_cases hi:i < L.length
 ·rw [List.getD_eq_getElem?_getD,List.getElem?_eq_getElem hi]
  exact List.sublist_flatten_of_mem (List.getElem_mem hi)
 ·rw [List.getD_eq_getElem?_getD,List.getElem?_eq_none (by omega)]
  exact List.nil_sublist _
theorem getD_set (L:List α) (i j:Nat) (x d:α):(L.set i x).getD j d=if i=j∧i < L.length then x else L.getD j d:=by
 simp only [List.getD_eq_getElem?_getD,List.getElem?_set]
 by_cases e:i=j
 ·subst e
  by_cases h:i < L.length
  ·simp [h]
  ·simp [h]
 ·simp [e]
theorem flat_once {L:List (List α)} (h:L.flatten.Nodup) {i j:Nat} {d:α} (hi:d∈L.getD i []) (hj:d∈L.getD j []):i=j:=by
 induction L generalizing i j with
 | nil=>simp at hi
 | cons a L ih =>
  rw [List.flatten_cons,List.nodup_append] at h
  cases i with
  | zero =>
   cases j with
   | zero=>rfl
   | succ j =>
    rw [List.getD_cons_zero] at hi;rw [List.getD_cons_succ] at hj
    exact absurd rfl (h.2.2 d hi d ((sub_flat L j).subset hj))
  | succ i =>
   cases j with
   | zero =>
    rw [List.getD_cons_zero] at hj;rw [List.getD_cons_succ] at hi
    exact absurd rfl (h.2.2 d hj d ((sub_flat L i).subset hi))
   | succ j =>
    rw [List.getD_cons_succ] at hi hj;rw [ih h.2.1 hi hj]
end
end
theorem ctz_spec {x:Nat} (h0:x≠0) (h:x < 2 ^ 64):x.testBit (Lib.ctz 64 x)=true∧Lib.ctz 64 x < 64∧∀ j,x.testBit j=true→Lib.ctz 64 x≤j:=by
 obtain ⟨m,h1,h2⟩:=Lib.ctzFrom_spec 64 x (by omega) h
 have e:Lib.ctz 64 x=Lib.ctzFrom 64 x:=by simp [Lib.ctz,h0]
 rw [e];generalize Lib.ctzFrom 64 x=c at h1 h2;subst h1
 refine ⟨?_,h2,fun j hj=>?_⟩
 ·rw [Nat.testBit_two_pow_mul]
  simp
 ·rw [Nat.testBit_two_pow_mul] at hj
  simp at hj
  exact hj.1
def SlotOk (most:Nat) (s:Slot):Prop:=s.m < 2 ^ most∧s.many=((List.range most).countP s.m.testBit:Nat)
theorem slotHas_iff {most:Nat} {s:Slot} {d:Int}:slotHas most s d=true ↔ ∃ c:Nat,c < most∧d=(c:Int)+1∧s.m.testBit c=true:=by
 unfold slotHas;rw [Bool.and_eq_true,decide_eq_true_eq]
 constructor
 ·rintro ⟨h1,h2⟩
  exact ⟨(d - 1).toNat,by omega,by omega,h2⟩
 ·rintro ⟨c,h1,rfl,h2⟩
  exact ⟨by omega,by rw [show ((c:Int)+1 - 1).toNat=c by omega];exact h2⟩
theorem testBit_le {m n i:Nat} (h:m < 2 ^ n) (hi:n≤i):m.testBit i=false:=Nat.testBit_lt_two_pow (Nat.lt_of_lt_of_le h (Nat.pow_le_pow_right (by omega) hi))
theorem not_bit {m i:Nat} (h:m < top64):(top64 - 1 - m).testBit i=(decide (i < 64) && !m.testBit i):=by
 have:=Nat.testBit_two_pow_sub_succ (n:=64) (x:=m) h i
 rw [← this];unfold top64
 congr 1
 omega
theorem slotTake_ok {most:Nat} {s:Slot} (h64:most≤64) (h:SlotOk most s) (he:(slotTake most s).2.2=0) :
  ∃ c:Nat,c < most∧s.m.testBit c=false∧slotTake most s=(⟨s.m ||| 2 ^ c,s.many+1⟩,(c:Int)+1,0)∧SlotOk most ⟨s.m ||| 2 ^ c,s.many+1⟩:=by
 obtain ⟨h1,h2⟩:=h
 have hlt:s.m < top64:=Nat.lt_of_lt_of_le h1 (Nat.pow_le_pow_right (n:=2) (by omega) h64)
 have hc:(List.range most).countP s.m.testBit≤most:=by simpa using List.countP_le_length (p:=s.m.testBit) (l:=List.range most)
 unfold slotTake at he ⊢
 by_cases hm:s.many=most
 ·rw [if_pos hm] at he
  exact absurd he (show (5:Int)≠0 by decide)
 rw [if_neg hm] at he ⊢
 have hz:∃ i,i < most∧s.m.testBit i=false:=by
  refine Classical.byContradiction fun hn=>hm ?_
  rw [h2,countP_all (fun i hi=>?_)]
  cases hb:s.m.testBit i with
  | true=>rfl
  | false=>exact absurd ⟨i,hi,hb⟩ hn
 obtain ⟨i,hi,hb⟩:=hz
 have hbit:(top64 - 1 - s.m).testBit i=true:=by rw [not_bit hlt,hb];simp;omega
 have h0:top64 - 1 - s.m≠0:=fun e=>by rw [e] at hbit;simp at hbit
 obtain ⟨t1,t2,t3⟩:=ctz_spec h0 (show top64 - 1 - s.m < 2 ^ 64 by unfold top64;omega)
 have hle:=t3 i hbit
 rw [if_pos t2];rw [not_bit hlt] at t1
 have hcf:s.m.testBit (Lib.ctz 64 (top64 - 1 - s.m))=false:=by simpa [t2] using t1
 generalize Lib.ctz 64 (top64 - 1 - s.m)=c at *
 have hw:wrap64 (s.many+1)=s.many+1:=by rw [h2];unfold wrap64;omega
 refine ⟨c,by omega,hcf,by rw [hw],?_,?_⟩
 ·exact Nat.or_lt_two_pow h1 (Nat.pow_lt_pow_right (by omega) (by omega))
 ·show s.many+1=_
  rw [h2,countP_one (p:=s.m.testBit) (q:=(s.m ||| 2 ^ c).testBit) hcf ?_ ?_ most (by omega)]
  ·rfl
  ·simp [Nat.testBit_or]
  ·intro j hj
   rw [Nat.testBit_or,Nat.testBit_two_pow]
   simp [Ne.symm hj]
theorem slotTake_bad {most:Nat} {s:Slot} (he:(slotTake most s).2.2≠0):(slotTake most s).1=s:=by
 unfold slotTake at he ⊢
 by_cases hm:s.many=most
 ·rw [if_pos hm]
 ·rw [if_neg hm] at he ⊢
  split at he
  ·exact absurd rfl he
  ·rename_i hh
   rw [if_neg hh]
theorem slotGive_ok {most:Nat} {s:Slot} (h64:most≤64) (h:SlotOk most s) {d:Int} (hd:slotHas most s d=true) :
  (slotGive most s d).2=0∧SlotOk most (slotGive most s d).1∧∀ x,slotHas most (slotGive most s d).1 x=(slotHas most s x && !(x == d)):=by
 obtain ⟨h1,h2⟩:=h
 have hlt:s.m < top64:=Nat.lt_of_lt_of_le h1 (Nat.pow_le_pow_right (n:=2) (by omega) h64)
 unfold slotGive;rw [if_pos hd]
 obtain ⟨c,hc,rfl,hb⟩:=slotHas_iff.1 hd
 rw [show ((c:Int)+1 - 1).toNat=c by omega]
 have hcl:(List.range most).countP s.m.testBit≤most:=by simpa using List.countP_le_length (p:=s.m.testBit) (l:=List.range most)
 have bit:∀ i,(notF s.m (2 ^ c)).testBit i=(s.m.testBit i && !decide (i=c)):=by
  intro i
  unfold notF;rw [Nat.testBit_and,not_bit (pow_lt64 (by omega)),Nat.testBit_two_pow]
  by_cases e:c=i
  ·subst e;simp
  ·have e':¬ i=c:=fun h=>e h.symm
   by_cases hi:i < 64
   ·simp [e,e',hi]
   ·rw [testBit_le h1 (by omega)];rfl
 have hcount:=countP_one (p:=(notF s.m (2 ^ c)).testBit) (q:=s.m.testBit) (c:=c) (by rw [bit];simp) hb (fun i hi=>by rw [bit];simp [hi]) most hc
 refine ⟨rfl,⟨Nat.lt_of_le_of_lt Nat.and_le_left h1,?_⟩,fun x=>?_⟩
 ·show wrap64 (s.many - 1)=(((List.range most).countP (notF s.m (2 ^ c)).testBit:Nat):Int)
  rw [h2,hcount];unfold wrap64
  omega
 ·rw [Bool.eq_iff_iff,Bool.and_eq_true,slotHas_iff,slotHas_iff]
  constructor
  ·rintro ⟨j,j1,rfl,j2⟩
   rw [bit,Bool.and_eq_true] at j2
   refine ⟨⟨j,j1,rfl,j2.1⟩,?_⟩
   have:j≠c:=by simpa using j2.2
   simp only [Bool.not_eq_true',beq_eq_false_iff_ne]
   omega
  ·rintro ⟨⟨j,j1,rfl,j2⟩,hj⟩
   have hj:(j:Int)+1≠(c:Int)+1:=by simpa using hj
   refine ⟨j,j1,rfl,?_⟩
   rw [bit,j2]
   have:j≠c:=by omega
   simp [this]
theorem slotHas_or {most:Nat} {s:Slot} {c:Nat} (hc:c < most) (n:Int) (x:Int):slotHas most ⟨s.m ||| 2 ^ c,n⟩ x=(slotHas most s x || x == (c:Int)+1):=by
 rw [Bool.eq_iff_iff,Bool.or_eq_true,slotHas_iff,slotHas_iff]
 constructor
 ·rintro ⟨j,j1,rfl,j2⟩
  have j2:(s.m ||| 2 ^ c).testBit j=true:=j2
  rw [Nat.testBit_or,Nat.testBit_two_pow,Bool.or_eq_true] at j2
  rcases j2 with j2 | j2
  ·exact .inl ⟨j,j1,rfl,j2⟩
  ·right
   have:c=j:=by simpa using j2
   simp [this]
 ·rintro (⟨j,j1,rfl,j2⟩ | hx)
  ·exact ⟨j,j1,rfl,by rw [Nat.testBit_or,j2];rfl⟩
  ·have:x=(c:Int)+1:=by simpa using hx
   refine ⟨c,hc,this,?_⟩
   simp [Nat.testBit_or]
theorem slot0_ok (most:Nat):SlotOk most ⟨0,0⟩:=by
 refine ⟨Nat.two_pow_pos most,?_⟩
 show (0:Int)=_
 have:(List.range most).countP (0:Nat).testBit=0:=by
  rw [List.countP_eq_zero]
  intro a _
  simp
 rw [this];rfl
structure Own (most:Nat) (ids:Slot) (L:List (List Int)):Prop where
 ok:SlotOk most ids
 nd:L.flatten.Nodup
 mem:∀ d,slotHas most ids d=true ↔ d∈L.flatten
theorem Own.rng {most:Nat} {ids:Slot} {L:List (List Int)} (h:Own most ids L) {d:Int} (hd:d∈L.flatten):1≤d∧d≤most:=by
 obtain ⟨c,hc,rfl,-⟩:=slotHas_iff.1 ((h.mem d).2 hd)
 omega
theorem Own.len {most:Nat} {ids:Slot} {L:List (List Int)} (h:Own most ids L) (i:Nat):(L.getD i []).length≤most :=
 nodup_le (h.nd.sublist (sub_flat L i)) fun x hx=>h.rng ((sub_flat L i).subset hx)
theorem Own.nodup {most:Nat} {ids:Slot} {L:List (List Int)} (h:Own most ids L) (i:Nat):(L.getD i []).Nodup:=h.nd.sublist (sub_flat L i)
theorem Own.less {most:Nat} {ids:Slot} {L:List (List Int)} (h:Own most ids L) {d:Int} (h1:1≤d∧d≤most) (hd:d ∉ L.flatten):L.flatten.length < most:=by
 have:(d::L.flatten).length≤most:=nodup_le (List.nodup_cons.2 ⟨hd,h.nd⟩) (fun x hx=>by rcases List.mem_cons.1 hx with rfl | hx;exact h1;exact h.rng hx)
 rw [List.length_cons] at this
 omega
theorem Own.perm {most:Nat} {ids:Slot} {L L':List (List Int)} (h:Own most ids L) (hp:L'.flatten.Perm L.flatten):Own most ids L' :=
 ⟨h.ok,hp.nodup_iff.2 h.nd,fun d=>(h.mem d).trans hp.mem_iff.symm⟩
theorem Own.take {most:Nat} (h64:most≤64) {ids:Slot} {L L':List (List Int)} (h:Own most ids L) (he:(slotTake most ids).2.2=0) (hp:L'.flatten.Perm (L.flatten++[(slotTake most ids).2.1])) :
  Own most (slotTake most ids).1 L'∧(slotTake most ids).2.1 ∉ L.flatten∧1≤(slotTake most ids).2.1∧(slotTake most ids).2.1≤most:=by
 obtain ⟨c,h1,h2,h3,h4⟩:=slotTake_ok h64 h.ok he
 rw [h3] at hp ⊢
 have hn:(c:Int)+1 ∉ L.flatten:=fun e=>by
  obtain ⟨j,-,j2,j3⟩:=slotHas_iff.1 ((h.mem _).2 e)
  have:j=c:=by omega
  rw [this,h2] at j3
  exact absurd j3 (by decide)
 refine ⟨⟨h4,hp.nodup_iff.2 ?_,fun d=>?_⟩,hn,by show 1≤(c:Int)+1;omega,by show (c:Int)+1≤most;omega⟩
 ·rw [List.nodup_append]
  refine ⟨h.nd,by simp,fun a ha b hb e=>?_⟩
  have hb:b=(c:Int)+1:=by simpa using hb
  subst e hb
  exact hn ha
 ·rw [hp.mem_iff,slotHas_or h1,Bool.or_eq_true,h.mem,List.mem_append,List.mem_singleton,beq_iff_eq]
theorem Own.give {most:Nat} (h64:most≤64) {ids:Slot} {L L':List (List Int)} (h:Own most ids L) {d:Int} (hd:d∈L.flatten) (hp:L'.flatten.Perm (L.flatten.erase d)) :
  Own most (slotGive most ids d).1 L'∧(slotGive most ids d).2=0:=by
 obtain ⟨h1,h2,h3⟩:=slotGive_ok h64 h.ok ((h.mem d).2 hd)
 refine ⟨⟨h2,hp.nodup_iff.2 (h.nd.erase d),fun x=>?_⟩,h1⟩
 rw [hp.mem_iff,h3,Bool.and_eq_true,h.mem,h.nd.mem_erase_iff]
 simp [and_comm]
theorem Own.start (most n:Nat):Own most ⟨0,0⟩ (List.replicate n []):=by
 have e:(List.replicate n ([]:List Int)).flatten=[]:=by simp
 refine ⟨slot0_ok most,by rw [e];exact List.nodup_nil,fun d=>?_⟩
 rw [e,slotHas_iff]
 simp
theorem xor_zero {a b:Nat}:a ^^^ b=0 ↔ a=b:=by
 constructor
 ·intro h
  refine Nat.eq_of_testBit_eq fun i=>?_
  have:=congrArg (fun x=>x.testBit i) h
  simpa using this
 ·rintro rfl
  exact Nat.xor_self a
theorem xor_div {a b k:Nat}:a / 2 ^ k=b / 2 ^ k ↔ a ^^^ b < 2 ^ k:=by
 rw [← Nat.shiftRight_eq_div_pow,← Nat.shiftRight_eq_div_pow,← xor_zero,← Nat.shiftRight_xor_distrib,Nat.shiftRight_eq_div_pow,Nat.div_eq_zero_iff]
 have:=Nat.two_pow_pos k
 omega
theorem div_up {a b k j:Nat} (h:a / 2 ^ k=b / 2 ^ k) (hj:k≤j):a / 2 ^ j=b / 2 ^ j:=by
 rw [xor_div] at h ⊢
 exact Nat.lt_of_lt_of_le h (Nat.pow_le_pow_right (by omega) hj)
theorem level_spec {a b:Nat} (ha:a≤1152921504606846976) (hb:b≤1152921504606846976) (hne:a≠b) :
  a / 2 ^ (3*levelF a b)≠b / 2 ^ (3*levelF a b)∧a / 2 ^ (3*(levelF a b+1))=b / 2 ^ (3*(levelF a b+1)):=by
 have hx:a ^^^ b < 2 ^ 64:=Nat.xor_lt_two_pow (by omega) (by omega)
 have h0:a ^^^ b≠0:=fun e=>hne (xor_zero.1 e)
 obtain ⟨h1,h2,h3⟩:=Lib.bitLenAux_bounds 64 (a ^^^ b) hx h0
 unfold levelF Lib.bitLen;generalize Lib.bitLenAux 64 (a ^^^ b)=n at *
 have hl:=Nat.div_add_mod (n - 1) 3
 have hm:=Nat.mod_lt (n - 1) (show 3 > 0 by omega)
 generalize (n - 1) / 3=l at *
 constructor
 ·rw [Ne,xor_div,Nat.not_lt]
  exact Nat.le_trans (Nat.pow_le_pow_right (by omega) (by omega)) h2
 ·rw [xor_div]
  exact Nat.lt_of_lt_of_le h3 (Nat.pow_le_pow_right (by omega) (by omega))
theorem level_uniq {a b l:Nat} (ha:a≤1152921504606846976) (hb:b≤1152921504606846976) (h1:a / 2 ^ (3*l)≠b / 2 ^ (3*l)) (h2:a / 2 ^ (3*(l+1))=b / 2 ^ (3*(l+1))):levelF a b=l:=by
 have hne:a≠b:=fun e=>h1 (by rw [e])
 obtain ⟨g1,g2⟩:=level_spec ha hb hne
 refine Nat.le_antisymm (Nat.le_of_not_lt fun hlt=>?_) (Nat.le_of_not_lt fun hlt=>?_)
 ·exact g1 (div_up h2 (by omega))
 ·exact h1 (div_up g2 (by omega))
theorem div_step (a l:Nat):a / 2 ^ (3*l)=8*(a / 2 ^ (3*(l+1)))+digitF a l:=by
 unfold digitF;rw [show 3*(l+1)=3*l+3 by omega,Nat.pow_add,← Nat.div_div_eq_div_mul]
 have:=Nat.div_add_mod (a / 2 ^ (3*l)) 8
 omega
theorem digit_lt (a l:Nat):digitF a l < 8:=Nat.mod_lt _ (by omega)
theorem lt_of_div {a b k:Nat} (h:a / 2 ^ k < b / 2 ^ k):a < b:=Nat.lt_of_not_le fun e=>by have:=Nat.div_le_div_right (c:=2 ^ k) e;omega
theorem level_keep {now t due:Nat} (hn:now < t) (ht:t≤1152921504606846976) (hd:now < due) (hd2:due≤1152921504606846976)
  (h:8*levelF t now+digitF t (levelF t now) < 8*levelF due now+digitF due (levelF due now)):t < due∧levelF due t=levelF due now:=by
 obtain ⟨a1,a2⟩:=level_spec ht (by omega) (show t≠now by omega)
 obtain ⟨b1,b2⟩:=level_spec hd2 (show now≤_ by omega) (show due≠now by omega)
 have d1:=digit_lt t (levelF t now)
 have d2:=digit_lt due (levelF due now)
 generalize levelF t now=L at *;generalize levelF due now=l at *
 have hc:t / 2 ^ (3*l) < due / 2 ^ (3*l)∧due / 2 ^ (3*(l+1))=t / 2 ^ (3*(l+1)):=by
  by_cases e:l=L
  ·subst e
   have e1:due / 2 ^ (3*(l+1))=t / 2 ^ (3*(l+1)):=b2.trans a2.symm
   refine ⟨?_,e1⟩
   rw [div_step t l,div_step due l,e1]
   omega
  ·have hlt:L < l:=by omega
   have e1:t / 2 ^ (3*l)=now / 2 ^ (3*l):=div_up a2 (by omega)
   refine ⟨?_,b2.trans (div_up e1 (by omega)).symm⟩
   have:=Nat.div_le_div_right (c:=2 ^ (3*l)) (Nat.le_of_lt hd)
   omega
 exact ⟨lt_of_div hc.1,level_uniq hd2 ht (by omega) hc.2⟩
theorem flat_add (L:List (List Int)) (i:Nat) (d:Int) (hi:i < L.length):(L.set i (L.getD i []++[d])).flatten.Perm (L.flatten++[d]):=by
 have h:=flatten_set L i (L.getD i []++[d]) hi
 refine (List.perm_append_right_iff (L.getD i [])).1 (h.trans ?_)
 rw [List.append_assoc]
 exact List.Perm.append_left _ List.perm_append_comm
theorem flat_drop {L:List (List Int)} {i:Nat} {d:Int} (hi:i < L.length) (hd:d∈L.getD i []):(L.set i ((L.getD i []).erase d)).flatten.Perm (L.flatten.erase d):=by
 have h:=flatten_set L i ((L.getD i []).erase d) hi
 have e:(L.getD i []).Perm (d::(L.getD i []).erase d):=List.perm_cons_erase hd
 have h2:((L.set i ((L.getD i []).erase d)).flatten++(d::(L.getD i []).erase d)).Perm (L.flatten++(L.getD i []).erase d):=((List.Perm.append_left _ e).symm).trans h
 have h3:(d::(L.set i ((L.getD i []).erase d)).flatten).Perm L.flatten:=by
  refine (List.perm_append_right_iff ((L.getD i []).erase d)).1 ?_
  refine List.Perm.trans ?_ h2
  rw [List.cons_append]
  exact (List.perm_middle).symm
 have h4:=h3.erase d
 rw [List.erase_cons_head] at h4
 exact h4
structure WOk (s:Wheel):Prop where
 len:s.ls.length=169
 now:s.now≤1152921504606846976
 rng:∀ x∈s.dues,0≤x.2∧x.2≤1152921504606846976
 nd:(s.dues.map Prod.fst).Nodup
 perm:s.ls.flatten.Perm (s.dues.map Prod.fst)
 at':∀ i d,d∈s.ls.getD i []→listIx s.now ((mget s.dues d).getD 0)=i
theorem WOk.due {s:Wheel} (h:WOk s) (d:Int):0≤(mget s.dues d).getD 0∧(mget s.dues d).getD 0≤1152921504606846976:=by
 cases hg:mget s.dues d with
 | none=>simp
 | some v=>exact h.rng _ (mget_mem hg)
theorem WOk.ix {s:Wheel} (h:WOk s) (d:Int):listIx s.now ((mget s.dues d).getD 0) < s.ls.length:=by
 rw [h.len]
 exact listIx_lt h.now (h.due d).2
theorem WOk.place {s:Wheel} (h:WOk s) {d:Int} (hd:(mget s.dues d).isSome=true):d∈s.ls.getD (listIx s.now ((mget s.dues d).getD 0)) []:=by
 have:d∈s.ls.flatten:=h.perm.mem_iff.2 (mget_some_iff.1 hd)
 obtain ⟨i,hi,hm⟩:=mem_flat.1 this
 rw [h.at' i d hm]
 exact hm
theorem WOk.max {s:Wheel} (h:WOk s):wheelMax s=s.dues.length:=by
 have:=h.perm.length_eq
 rw [List.length_flatten] at this
 simpa [wheelMax] using this
theorem putOne_at {s:Wheel} {l0:List Int} (hl:s.ls.length=169) (hp:s.ls.flatten.Perm l0) (ha:∀ i d,d∈s.ls.getD i []→listIx s.now ((mget s.dues d).getD 0)=i) (d:Int) (hi:listIx s.now ((mget s.dues d).getD 0) < 169) :
  (putOne s d).now=s.now∧(putOne s d).dues=s.dues∧(putOne s d).ls.length=169∧(putOne s d).ls.flatten.Perm (l0++[d])∧∀ i x,x∈(putOne s d).ls.getD i []→listIx s.now ((mget s.dues x).getD 0)=i:=by
 refine ⟨rfl,rfl,by simp [putOne,hl],(flat_add s.ls _ d (by rw [hl];exact hi)).trans (hp.append_right _),fun i x hx=>?_⟩
 simp only [putOne] at hx
 rw [getD_set] at hx
 split at hx
 ·rename_i e
  rcases List.mem_append.1 hx with hx | hx
  ·rw [← e.1];exact ha _ _ hx
  ·rw [List.mem_singleton.1 hx,e.1]
 ·exact ha _ _ hx
theorem putAll_at:∀ (l:List Int) {s:Wheel} {l0:List Int} (hl:s.ls.length=169) (hp:s.ls.flatten.Perm l0) (ha:∀ i d,d∈s.ls.getD i []→listIx s.now ((mget s.dues d).getD 0)=i) (hi:∀ d,listIx s.now ((mget s.dues d).getD 0) < 169),
  (putAll s l).now=s.now∧(putAll s l).dues=s.dues∧(putAll s l).ls.length=169∧(putAll s l).ls.flatten.Perm (l0++l)∧∀ i x,x∈(putAll s l).ls.getD i []→listIx s.now ((mget s.dues x).getD 0)=i
 | [],s,l0,hl,hp,ha,hi=>⟨rfl,rfl,hl,by simpa [putAll] using hp,ha⟩
 | d::l,s,l0,hl,hp,ha,hi=>by
  obtain ⟨a1,a2,a3,a4,a5⟩:=putOne_at hl hp ha d (hi d)
  obtain ⟨b1,b2,b3,b4,b5⟩:=putAll_at l (s:=putOne s d) a3 a4 (by rw [a1,a2];exact a5) (by rw [a1,a2];exact hi)
  have e:putAll s (d::l)=putAll (putOne s d) l:=rfl
  rw [e]
  refine ⟨b1.trans a1,b2.trans a2,b3,?_,fun i x hx=>?_⟩
  ·rw [List.append_assoc] at b4
   exact b4
  ·have:=b5 i x hx
   rwa [a1,a2] at this
theorem WOk.start (now:Nat) (h:now≤1152921504606846976):WOk (wheel0 now):=by
 refine ⟨by unfold wheel0;exact List.length_replicate,h,(fun x hx=>by cases hx),List.nodup_nil,?_,fun i d hd=>?_⟩
 ·show (List.replicate 169 ([]:List Int)).flatten.Perm []
  rw [List.flatten_replicate_nil]
 ·simp only [wheel0,List.getD_eq_getElem?_getD,List.getElem?_replicate] at hd
  split at hd <;> simp at hd
theorem WOk.add {s:Wheel} (h:WOk s) {d due:Int} (hr:rightF due=true) (hn:mget s.dues d=none) :
  (wheelAdd s d due).2=0∧WOk (wheelAdd s d due).1∧(wheelAdd s d due).1.dues=mput s.dues d due∧(wheelAdd s d due).1.now=s.now:=by
 unfold wheelAdd;rw [if_pos hr,hn]
 simp only [Option.isSome_none,Bool.false_eq_true,if_false]
 have hrr:=rightF_iff hr
 have hnew:d ∉ s.ls.flatten:=fun e=>mget_none_iff.1 hn (h.perm.mem_iff.1 e)
 have hg:mget (mput s.dues d due) d=some due:=by rw [mput_get];simp
 obtain ⟨a1,a2,a3,a4,a5⟩:=putOne_at (s:=⟨s.now,mput s.dues d due,s.ls⟩) h.len h.perm
  (fun i x hx=>by
   have hne:¬ d=x:=fun e=>hnew (by rw [e];exact (sub_flat s.ls i).subset hx)
   show listIx s.now ((mget (mput s.dues d due) x).getD 0)=i
   rw [mput_get,if_neg hne]
   exact h.at' i x hx) d (by
   show listIx s.now ((mget (mput s.dues d due) d).getD 0) < 169
   rw [hg]
   exact listIx_lt h.now hrr.2)
 refine ⟨by trivial,⟨a3,h.now,fun x hx=>?_,mput_nodup h.nd,?_,a5⟩,rfl,rfl⟩
 ·rcases mem_mput hx with rfl | hx
  ·exact hrr
  ·exact h.rng x hx
 ·rw [show (putOne ⟨s.now,mput s.dues d due,s.ls⟩ d).dues=mput s.dues d due from rfl,mput_keys_new hn]
  exact a4
theorem WOk.drop {s:Wheel} (h:WOk s) {d:Int} (hs:(mget s.dues d).isSome=true) :
  (wheelDrop s d).2=0∧WOk (wheelDrop s d).1∧(wheelDrop s d).1.dues=mdel s.dues d∧(wheelDrop s d).1.now=s.now:=by
 have hp:=h.place hs
 have hix:=h.ix d
 unfold wheelDrop
 cases hg:mget s.dues d with
 | none=>rw [hg] at hs;exact absurd hs (by decide)
 | some due =>
  rw [hg] at hp hix
  simp only [Option.getD_some] at hp hix
  have hnd:(s.ls.getD (listIx s.now due) []).Nodup:=(h.perm.nodup_iff.2 h.nd).sublist (sub_flat _ _)
  have hf:((s.ls.getD (listIx s.now due) []).filter fun x=>!(x == d))=(s.ls.getD (listIx s.now due) []).erase d:=by
   rw [hnd.erase_eq_filter];rfl
  have hper:(s.ls.set (listIx s.now due) ((s.ls.getD (listIx s.now due) []).erase d)).flatten.Perm ((mdel s.dues d).map Prod.fst):=by
   rw [mdel_keys]
   exact (flat_drop hix hp).trans (h.perm.erase d)
  dsimp only;rw [hf]
  refine ⟨rfl,⟨by simpa using h.len,h.now,fun x hx=>h.rng x (mem_mdel hx),mdel_nodup h.nd,hper,fun i x hx=>?_⟩,rfl,rfl⟩
  have hx2:x∈(mdel s.dues d).map Prod.fst:=hper.mem_iff.1 ((sub_flat _ i).subset hx)
  rw [mdel_keys,h.nd.mem_erase_iff] at hx2
  show listIx s.now ((mget (mdel s.dues d) x).getD 0)=i
  rw [mdel_get h.nd,if_neg (fun e=>hx2.1 e.symm)];dsimp only at hx;rw [getD_set] at hx
  split at hx
  ·rename_i e
   rw [← e.1]
   exact h.at' _ x (List.mem_of_mem_erase hx)
  ·exact h.at' i x hx
theorem takeN_at (s:Wheel) (b:Nat):∀ n,b+n≤s.ls.length→((takeN s b n).1.ls.flatten++(takeN s b n).2).Perm s.ls.flatten∧∀ i,(takeN s b n).1.ls.getD i []=if b≤i∧i < b+n then [] else s.ls.getD i []
 | 0,_=>⟨by simp [takeN],fun i=>by simp [takeN];omega⟩
 | n+1,hb=>by
  obtain ⟨h1,h2⟩:=takeN_at s b n (by omega)
  have hl:=(takeN_sum s b n).1
  constructor
  ·simp only [takeN]
   have h3:=flatten_set (takeN s b n).1.ls (b+n) [] (by omega)
   rw [List.append_nil] at h3;rw [← List.append_assoc]
   refine List.Perm.trans ?_ h1
   refine List.Perm.trans ?_ (h3.append_right _)
   rw [List.append_assoc,List.append_assoc]
   exact List.Perm.append_left _ List.perm_append_comm
  ·intro i
   simp only [takeN]
   rw [getD_set,h2 i]
   by_cases e:b+n=i
   ·subst e
    rw [if_pos ⟨rfl,by omega⟩,if_pos (by omega)]
   ·rw [if_neg (fun h=>e h.1)]
    by_cases hi:b≤i∧i < b+n
    ·rw [if_pos hi,if_pos (by omega)]
    ·rw [if_neg hi,if_neg (by omega)]
theorem takeLevels_at (s:Wheel):∀ t,8*t≤s.ls.length→((takeLevels s t).1.ls.flatten++(takeLevels s t).2).Perm s.ls.flatten∧∀ i,(takeLevels s t).1.ls.getD i []=if i < 8*t then [] else s.ls.getD i []
 | 0,_=>⟨by simp [takeLevels],fun i=>by simp [takeLevels]⟩
 | t+1,ht=>by
  obtain ⟨h1,h2⟩:=takeLevels_at s t (by omega)
  have hl:=(takeLevels_sum s t).1
  obtain ⟨g1,g2⟩:=takeN_at (takeLevels s t).1 (8*t) 8 (by omega)
  constructor
  ·simp only [takeLevels]
   refine List.Perm.trans ?_ h1
   refine List.Perm.trans ?_ (g1.append_right _)
   rw [List.append_assoc]
   exact List.Perm.append_left _ List.perm_append_comm
  ·intro i
   simp only [takeLevels]
   rw [g2 i,h2 i]
   by_cases e:8*t≤i∧i < 8*t+8
   ·rw [if_pos e,if_pos (by omega)]
   ·rw [if_neg e]
    by_cases e2:i < 8*t
    ·rw [if_pos e2,if_pos (by omega)]
    ·rw [if_neg e2,if_neg (by omega)]
theorem goneF_at {s:Wheel} (h:WOk s) {t:Nat} (ht:t≤1152921504606846976):((goneF s t).1.ls.flatten++(goneF s t).2).Perm s.ls.flatten∧(goneF s t).1.ls.length=169∧(goneF s t).1.dues=s.dues ∧
  ∀ i,(goneF s t).1.ls.getD i []=if i < 8*levelF t s.now+digitF t (levelF t s.now)+1 then [] else s.ls.getD i []:=by
 have hL:=level_le ht h.now
 have hD:=digit_lt t (levelF t s.now)
 unfold goneF;generalize levelF t s.now=L at *;generalize digitF t L=D at *;rw [show min (D+1) 8=D+1 by omega]
 obtain ⟨h1,h2⟩:=takeLevels_at s L (by rw [h.len];omega)
 have hl:=(takeLevels_sum s L).1
 obtain ⟨g1,g2⟩:=takeN_at (takeLevels s L).1 (8*L) (D+1) (by rw [hl,h.len];omega)
 dsimp only
 refine ⟨?_,?_,?_,fun i=>?_⟩
 ·refine List.Perm.trans ?_ h1
  refine List.Perm.trans ?_ (g1.append_right _)
  rw [List.append_assoc]
  exact List.Perm.append_left _ List.perm_append_comm
 ·rw [(takeN_sum _ _ _).1,hl,h.len]
 ·rw [(takeN_now _ _ _).2,(takeLevels_now _ _).2]
 ·rw [g2 i,h2 i]
  by_cases e:8*L≤i∧i < 8*L+(D+1)
  ·rw [if_pos e,if_pos (by omega)]
  ·rw [if_neg e]
   by_cases e2:i < 8*L
   ·rw [if_pos e2,if_pos (by omega)]
   ·rw [if_neg e2,if_neg (by omega)]
theorem WOk.goAt {s:Wheel} (h:WOk s) {t:Nat} (ht:t≤1152921504606846976) (hn:s.now < t):WOk (goAt s t)∧(Go.Proofs.YtiocbpabbjgkhaaGreatDoor.goAt s t).dues=s.dues∧(Go.Proofs.YtiocbpabbjgkhaaGreatDoor.goAt s t).now=t:=by
 obtain ⟨h1,h2,h3,h4⟩:=goneF_at h ht
 unfold Go.Proofs.YtiocbpabbjgkhaaGreatDoor.goAt
 have hix:∀ d,listIx t ((mget s.dues d).getD 0) < 169:=fun d=>listIx_lt ht (h.due d).2
 obtain ⟨a1,a2,a3,a4,a5⟩:=putAll_at (goneF s t).2 (s:=⟨t,(goneF s t).1.dues,(goneF s t).1.ls⟩) (l0:=(goneF s t).1.ls.flatten) h2 (List.Perm.refl _)
  (fun i d hd=>by
   show listIx t ((mget (goneF s t).1.dues d).getD 0)=i
   rw [h3]
   have hd:d∈(goneF s t).1.ls.getD i []:=hd
   rw [h4 i] at hd
   split at hd
   ·cases hd
   ·rename_i hi
    have e:=h.at' i d hd
    have hb:=h.due d
    generalize (mget s.dues d).getD 0=due at *
    unfold listIx at e ⊢
    by_cases hle:due≤s.now
    ·rw [if_pos hle] at e
     rw [if_pos (by omega),e]
    ·rw [if_neg hle] at e
     have k:=level_keep hn ht (due:=due.toNat) (by omega) (by omega) (by omega)
     rw [if_neg (by omega),k.2,e])
  (fun d=>by
   show listIx t ((mget (goneF s t).1.dues d).getD 0) < 169
   rw [h3]
   exact hix d)
 refine ⟨⟨a3,by rw [a1];exact ht,by rw [a2];show ∀ x∈(goneF s t).1.dues,_;rw [h3];exact h.rng,by rw [a2];show ((goneF s t).1.dues.map Prod.fst).Nodup;rw [h3];exact h.nd,?_,?_⟩,by rw [a2];exact h3,a1⟩
 ·rw [a2]
  show List.Perm _ ((goneF s t).1.dues.map Prod.fst)
  exact (a4.trans (h1.trans h.perm)).trans (List.Perm.of_eq (by rw [h3]))
 ·rw [a1,a2]
  exact a5
theorem WOk.go {s:Wheel} (h:WOk s) (t:Int):WOk (wheelGo s t).1∧(wheelGo s t).1.dues=s.dues:=by
 unfold wheelGo
 split
 ·exact ⟨h,rfl⟩
 ·rename_i h1
  split
  ·rename_i h2
   have hr:=rightF_iff h2
   split
   ·exact ⟨h,rfl⟩
   ·rename_i h3
    have:=h.goAt (t:=t.toNat) (by omega) (by omega)
    exact ⟨this.1,this.2.1⟩
  ·exact ⟨h,rfl⟩
theorem firstL_nil {ls:List (List Int)} (h:firstL ls=[]):∀ l∈ls,l=[]:=by
 induction ls with
 | nil=>intro l hl;cases hl
 | cons a ls ih =>
  simp only [firstL] at h
  split at h
  ·rename_i e
   intro l hl
   rcases List.mem_cons.1 hl with rfl | hl
   ·exact e
   ·exact ih h l hl
  ·rename_i e
   exact absurd h e
theorem WOk.first {s:Wheel} (h:WOk s) (hd:s.dues≠[]):wheelFirst s≠[]:=by
 intro e
 unfold wheelFirst at e
 split at e
 ·rename_i h1
  exact h1 e
 ·rename_i h1
  have h1:s.ls.getD 168 []=[]:=Classical.not_not.1 h1
  have h2:=firstL_nil e
  have hall:s.ls.flatten=[]:=by
   rw [List.eq_nil_iff_forall_not_mem]
   intro d hd
   obtain ⟨i,hi,hm⟩:=mem_flat.1 hd
   rw [h.len] at hi
   by_cases e8:i=168
   ·rw [e8,h1] at hm;cases hm
   ·have hi2:i < s.ls.length:=by rw [h.len];omega
    have:s.ls.getD i []∈s.ls.take 168:=by
     rw [List.getD_eq_getElem?_getD,List.getElem?_eq_getElem hi2,Option.getD_some]
     exact List.mem_take_iff_getElem.2 ⟨i,by rw [h.len];omega,rfl⟩
    rw [h2 _ this] at hm
    cases hm
  have:=h.perm.length_eq
  rw [hall] at this
  exact hd (List.length_eq_zero_iff.1 (by simpa using this.symm))
theorem WOk.due_mem {s:Wheel} (h:WOk s) (hd:wheelDue s≠[]):(mget s.dues ((wheelDue s).headD 0)).isSome=true:=by
 have h1:(wheelDue s).headD 0∈wheelDue s:=by
  cases he:wheelDue s with
  | nil=>exact absurd he hd
  | cons a l=>simp
 have h2:=(sortedF_perm s.dues (wheelReady s)).mem_iff.1 h1
 exact mget_some_iff.2 (h.perm.mem_iff.1 ((sub_flat s.ls 168).subset h2))
theorem WOk.list_mem {s:Wheel} (h:WOk s) (hd:wheelList s≠[]):(mget s.dues ((wheelList s).headD 0)).isSome=true:=by
 have h1:(wheelList s).headD 0∈wheelList s:=by
  cases he:wheelList s with
  | nil=>exact absurd he hd
  | cons a l=>simp
 have h2:=(sortedF_perm s.dues (keysOf s)).mem_iff.1 h1
 exact mget_some_iff.2 h2
theorem WOk.next {s:Wheel} (h:WOk s):0≤(wheelNext s).1∧(wheelNext s).1≤1152921504606846976:=by
 unfold wheelNext
 split
 ·exact ⟨by decide,by decide⟩
 ·exact h.due _
end Go.Proofs.YtiocbpabbjgkhaaGreatDoor
