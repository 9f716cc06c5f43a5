/- Part 27 of the proof: contracts and plain laws, each under the conditions that it names. -/
import Derived.Test.YtiocbpabbjgkhaaGreatDoorWak26
import Derived.Deep.CutRange
set_option maxRecDepth 100000
set_option maxHeartbeats 20000000
set_option linter.unusedVariables false
set_option linter.unusedSimpArgs false
namespace Go.Proofs.YtiocbpabbjgkhaaGreatDoor
open Go.RowKit Go.Proofs.Tryz
variable {w w' : World} {F : Nat → Prop} {p : Nat} {f : KF} {k : K}
section
open Go.Proofs.YtiocbpabbjgkhaaGreatDoor.NumD
theorem waits_any (l:List Int) (f:Int→Bool):(match l.find? f with | none=>((0:Int),false) | some n=>(n,true)).2=l.any f:=by
 induction l with
 | nil=>rfl
 | cons a l ih =>
  rw [List.find?_cons,List.any_cons]
  cases f a with
  | true=>rfl
  | false=>simpa using ih
theorem any_more (l:List Int) (f:Int→Bool) (j:Nat) (hj:j < l.length):(l.take (j+1)).any f=((l.take j).any f || f (l.getD j 0)):=by
 have hg:l[j]? = some (l.getD j 0):=by rw [List.getD_eq_getElem?_getD,List.getElem?_eq_getElem hj];rfl
 rw [List.take_add_one,hg,Option.toList_some,List.any_append]
 simp
theorem wakes_any (W:World) (hT:Tab W) (cpus cpu:Int) (a:Option Addr) (len cap:Nat) {E:Nat→Ev} (hE:EvsIn W a len E):Calls prog 4 #[.int .i64 cpus,.slice a len cap,.int .i64 cpu] W fun e w'=>e=.returned (.bool true)∧Below W.heap.size W w':=by
 have h2:=hT.two
 by_cases hc:cpus < 1∨64 < cpus
 ·have N:=Hd (new_no W cpus hc)
  have A:=Hd (alive_any W hT h2);clear hE hT h2 hc
  go_enter func4,ntmps4
  go_wp2_with fail;refine N.out.mono ?_;rintro e w1 ⟨rfl,rfl⟩;go_wp2_with fail;refine A.out.mono ?_;rintro e w1 ⟨rfl,hb⟩;go_wp2;go_returns
  exact ⟨rfl,hb⟩
 obtain ⟨n,rfl⟩:∃ n:Nat,cpus=n:=⟨cpus.toNat,by omega⟩
 have N:=Hd (new_any W n (by omega) (by omega) hT h2)
 have FW:=fun w=>few_any w n a len cap
 obtain ⟨fw,hfw⟩:∃ b,b=(decide (1≤(n:Int)) && decide ((n:Int)≤9) && decide (len≤300)):=⟨_,rfl⟩
 simp only [← hfw] at FW
 clear hc hT h2;replace hE:=Hd hE
 replace FW:=fun w=>Hd (FW w)
 cases fw with
 | false =>
  clear hfw hE
  go_enter func4,ntmps4
  go_wp2_with fail;refine N.out.mono ?_;rintro e w1 ⟨⟨p,f,rfl,HK⟩,hb0⟩;replace HK:=Hd HK;replace hb0:=Hd hb0;clear N
  have B:=FW w1
  go_wp2_with fail;refine B.out.mono ?_;rintro e w1 ⟨rfl,rfl⟩;have A:=Hd HK.out.kalive;go_wp2_with fail;refine A.out.mono ?_;rintro e w2 ⟨rfl,hb⟩;go_wp2;go_returns
  exact ⟨rfl,hb0.out.trans (hb.mono hb0.out.size)⟩
 | true =>
  obtain ⟨h9,hlen⟩:=few_cases hfw
  clear hfw
  go_enter func4,ntmps4
  go_wp2_with fail;refine N.out.mono ?_;rintro e w1 ⟨⟨p,f,rfl,HK⟩,hb0⟩;replace HK:=Hd HK;replace hb0:=Hd hb0;clear N
  have B:=FW w1
  go_wp2_with fail;refine B.out.mono ?_;rintro e w1 ⟨rfl,rfl⟩;clear FW B
  have HL:=Hd (Lk.refl w1 (Plus W w1 (fun _=>False)))
  go_wp2
  go_loopw [9] (fun iv wr=>∃ (i:Nat) (F':Nat→Prop),iv=.int .i64 i∧i≤len∧Hid (KAt wr F' p f (kPlay (kNew n) E i))∧Hid (Lk w1 (Plus W w1 (fun _=>False)) wr F')) (fun iv _=>len - (intOf iv).toNat)
  case atStart=>exact ⟨0,_,rfl,by omega,HK,HL⟩
  case round =>
   clear HK HL;obtain ⟨i,F',rfl,hi,HK,HL⟩:=hrel
   by_cases hlt:i < len
   ·obtain ⟨b,off,rfl⟩:=hE.out.base (by omega)
    obtain ⟨c0,c1,c2,c3,c4⟩:=(hE.out.below (top_below hb0.out HL.out)).at hlt
    obtain ⟨hm,-,-,-,hn⟩:=hE.out.ok i hlt
    have hst:Hid (kPlay (kNew n) E (i+1)=(kDo (kPlay (kNew n) E i) (E i)).1):=Hd rfl
    have ok:=Hd (kPlay_ok (kNew_ok n) E i).1
    obtain ⟨ev,hev⟩:∃ ev,ev=E i:=⟨_,rfl⟩
    rw [← hev] at c0 c1 c2 c3 c4 hm hn hst;replace hev:=Hd hev
    have D1:=HK.out.kdo' ok.out ev hm hn
    unfold evC at D1;replace D1:=Hd D1;clear hm hn ok;obtain ⟨kind,ecpu,id,m,nn⟩:=ev;dsimp only at c0 c1 c2 c3 c4;go_wp2_with fail;refine D1.out.mono ?_;rintro e w5 ⟨v,rfl,hv⟩;clear D1 c0 c1 c2 c3 c4;obtain ⟨F4,L1,K1,-⟩:=hv;replace HL:=Hd (HL.out.trans L1);replace HK:=Hd K1;clear L1 K1;rw [← hst.out] at HK;go_wp2;go_roundw
    case rel=>exact ⟨i+1,F4,by go_num,hlt,HK,HL⟩
    case measure=>simp [intOf];omega
   ·have e:i=len:=by omega
    subst e;clear hi hlt
    have ok:=Hd (kPlay_ok (kNew_ok n) E i)
    obtain ⟨k,hk⟩:∃ k,k=kPlay (kNew n) E i:=⟨_,rfl⟩
    rw [← hk] at HK ok;replace hk:=Hd hk;clear hE;have P:=Hd HK.out.k_cores;go_wp2_with fail;refine P.out.mono ?_;rintro e w2 ⟨rfl,S⟩;clear P;replace HL:=Hd (HL.out.below S);replace HK:=Hd (HK.out.below S);clear S
    have P:=HK.out.kcget cpu
    obtain ⟨g,hg⟩:∃ g,g=coreGet k.co cpu:=⟨_,rfl⟩
    rw [← hg] at P
    obtain ⟨⟨power,idle,way,since,steps,busy⟩,why⟩:=g
    dsimp only [coreL] at P
    replace P:=Hd P;replace hg:=Hd hg;go_wp2_with fail;refine P.out.mono ?_;rintro e w3 ⟨rfl,S⟩;clear P;replace HL:=Hd (HL.out.below S);replace HK:=Hd (HK.out.below S);clear S
    have HX:=HK.out.bx HL.out #[.bool power,.bool idle,.int .i64 way,.int .i64 since,.int .i64 steps,.int .i64 busy] 32
    clear HL HK;obtain ⟨HB,HK,HL⟩:=HX;have b1:=HB.out.cell 1
    by_cases hw:why=0
    ·subst hw
     obtain ⟨ac,hac⟩:∃ b,b=hasF k.active cpu:=⟨_,rfl⟩
     have A18:=fun w=>has_any k.active HK.out.ac cpu w
     simp only [← hac] at A18
     replace A18:=fun w=>Hd (A18 w)
     have A17:=Hd HK.out.kactive;replace hac:=Hd hac;have A:=Hd HK.out.kalive
     cases idle with
     | false =>
      go_wp2_with fail;refine A.out.mono ?_;rintro e w2 ⟨rfl,hb⟩;go_wp2;go_returns
      exact ⟨rfl,(top_below hb0.out HL.out).trans (hb.mono (top_below hb0.out HL.out).size)⟩
     | true =>
      go_wp2_with fail;refine A17.out.mono ?_;rintro e w1 ⟨rfl,rfl⟩;go_wp2_with fail;refine (A18 _).out.mono ?_;rintro e w1 ⟨rfl,rfl⟩;clear A17 A18
      cases ac with
      | false =>
       go_wp2_with fail;refine A.out.mono ?_;rintro e w2 ⟨rfl,hb⟩;go_wp2;go_returns
       exact ⟨rfl,(top_below hb0.out HL.out).trans (hb.mono (top_below hb0.out HL.out).size)⟩
      | true =>
       clear A;have P:=Hd HK.out.k_stop;go_wp2_with fail;refine P.out.mono ?_;rintro e w4 ⟨rfl,S⟩;clear P
       replace HB:=Hd (HB.out.lk (Lk.of_below S))
       replace HL:=Hd (HL.out.below S);replace HK:=Hd (HK.out.below S);clear S;clear b1
       obtain ⟨hd,hhd⟩:∃ b,b=hasF k.st.held cpu:=⟨_,rfl⟩
       have P:=HK.out.ksheld cpu
       rw [← hhd] at P;replace P:=Hd P;replace hhd:=Hd hhd;go_wp2_with fail;refine P.out.mono ?_;rintro e w1 ⟨rfl,rfl⟩;clear P
       cases hd with
       | true =>
        have A:=Hd HK.out.kalive;go_wp2_with fail;refine A.out.mono ?_;rintro e w2 ⟨rfl,hb⟩;go_wp2;go_returns
        exact ⟨rfl,(top_below hb0.out HL.out).trans (hb.mono (top_below hb0.out HL.out).size)⟩
       | false =>
        obtain ⟨j,rfl,hj,hcj⟩:=coreGet_ok hg.out.symm
        rw [ok.out.1.cos.1,ok.out.2] at hj
        have law:=wakes_law ok.out.1 (i:=j) (by rw [ok.out.2];exact hj) (by rw [hcj]) hac.out.symm hhd.out.symm (by have:=HK.out.nw;unfold tickOk;simpa using this)
        clear hac hhd hcj hg HB;unfold waitsK otherK kHot kWork at law
        obtain ⟨l4,e4⟩:∃ v,v=boxLoad k.cl j:=⟨_,rfl⟩
        obtain ⟨v6,e6⟩:∃ v,v=timersReady k.tm j:=⟨_,rfl⟩
        obtain ⟨lx,ex⟩:∃ v,v=worksLoad k.wk j:=⟨_,rfl⟩
        obtain ⟨ly,ey⟩:∃ v,v=worksLoad k.wk (-1):=⟨_,rfl⟩
        obtain ⟨l8,e8⟩:∃ v,v=runqLoad k.qs j:=⟨_,rfl⟩
        obtain ⟨vs,es⟩:∃ v,v=stopMust k.st j:=⟨_,rfl⟩
        obtain ⟨vb,eb⟩:∃ v,v=deskBusy k.dk:=⟨_,rfl⟩
        obtain ⟨vy,ey2⟩:∃ v,v=deskBy k.dk:=⟨_,rfl⟩
        rw [← e4,← e6,← ex,← ey,← e8,← es,← eb,← ey2] at law
        obtain ⟨w4,hw4⟩:∃ b,b=(decide (0 < l4) || v6 || decide (0 < wrap64 (lx+ly)) || decide (0 < l8)):=⟨_,rfl⟩
        rw [← hw4] at law
        obtain ⟨ot,hot⟩:∃ b,b=(vs || vb && vy == (j:Int)):=⟨_,rfl⟩
        rw [← hot] at law
        obtain ⟨l,hl⟩:∃ l,l=routeOn k.rt j:=⟨_,rfl⟩
        have hwi:(kWaits k j).2=l.any (irqReady k.iq):=by rw [hl];exact waits_any _ _
        rw [hwi] at law;replace e4:=Hd e4;replace e6:=Hd e6;replace ex:=Hd ex;replace ey:=Hd ey;replace e8:=Hd e8;replace es:=Hd es;replace eb:=Hd eb;replace ey2:=Hd ey2;replace law:=Hd law;replace hw4:=Hd hw4;replace hot:=Hd hot;replace hl:=Hd hl;clear hwi
        go_upto_region 11 with fail
        go_cut [12] from 74 to 102 (fun c wx=>c=.bool w4∧Hid (KAt wx F' p f k)∧Hid (Lk w1 (Plus W w1 (fun _=>False)) wx F'))
        case first =>
         have P:=Hd HK.out.k_calls;go_wp2_with fail;refine P.out.mono ?_;rintro e w5 ⟨rfl,S⟩;clear P;replace HL:=Hd (HL.out.below S);replace HK:=Hd (HK.out.below S);clear S
         have P:=HK.out.kbload j
         rw [← e4.out] at P;replace P:=Hd P;go_wp2_with fail;refine P.out.mono ?_;rintro e w6 ⟨rfl,S⟩;clear P;replace HL:=Hd (HL.out.below S);replace HK:=Hd (HK.out.below S);clear S
         by_cases h4:0 < l4
         ·go_wp2_with fail
          go_meet
          exact ⟨by rw [hw4.out];simp [h4],HK,HL⟩
         have P:=Hd HK.out.k_timers;go_wp2_with fail;refine P.out.mono ?_;rintro e w5 ⟨rfl,S⟩;clear P;replace HL:=Hd (HL.out.below S);replace HK:=Hd (HK.out.below S);clear S
         have P:=HK.out.ktready ok.out.1.fit.tm.few j
         rw [← e6.out] at P;replace P:=Hd P;go_wp2_with fail;refine P.out.mono ?_;rintro e w6 ⟨rfl,S⟩;clear P;replace HL:=Hd (HL.out.below S);replace HK:=Hd (HK.out.below S);clear S
         cases v6 with
         | true =>
          go_wp2_with fail
          go_meet
          exact ⟨by rw [hw4.out];simp,HK,HL⟩
         | false =>
          have P:=Hd HK.out.k_works;go_wp2_with fail;refine P.out.mono ?_;rintro e w5 ⟨rfl,S⟩;clear P;replace HL:=Hd (HL.out.below S);replace HK:=Hd (HK.out.below S);clear S
          have P:=HK.out.klload j
          rw [← ex.out] at P;replace P:=Hd P;go_wp2_with fail;refine P.out.mono ?_;rintro e w6 ⟨rfl,S⟩;clear P;replace HL:=Hd (HL.out.below S);replace HK:=Hd (HK.out.below S);clear S;have P:=Hd HK.out.k_works;go_wp2_with fail;refine P.out.mono ?_;rintro e w5 ⟨rfl,S⟩;clear P;replace HL:=Hd (HL.out.below S);replace HK:=Hd (HK.out.below S);clear S
          have P:=HK.out.klload (-1)
          rw [← ey.out] at P;replace P:=Hd P;go_wp2_with fail;refine P.out.mono ?_;rintro e w6 ⟨rfl,S⟩;clear P;replace HL:=Hd (HL.out.below S);replace HK:=Hd (HK.out.below S);clear S
          by_cases h5:0 < wrap64 (lx+ly)
          ·go_wp2_with fail
           go_meet
           exact ⟨by rw [hw4.out];simp [h5],HK,HL⟩
          have P:=Hd HK.out.k_queues;go_wp2_with fail;refine P.out.mono ?_;rintro e w5 ⟨rfl,S⟩;clear P;replace HL:=Hd (HL.out.below S);replace HK:=Hd (HK.out.below S);clear S
          have P:=HK.out.krload j
          rw [← e8.out] at P;replace P:=Hd P;go_wp2_with fail;refine P.out.mono ?_;rintro e w1 ⟨rfl,rfl⟩;clear P;go_wp2_with fail
          go_meet
          exact ⟨by rw [hw4.out];simp [h4,h5],HK,HL⟩
        case rest =>
        obtain ⟨rfl,HK,HL⟩:=hcut;have P:=Hd HK.out.k_route;go_wp2_with fail;refine P.out.mono ?_;rintro e w5 ⟨rfl,S⟩;clear P;replace HL:=Hd (HL.out.below S);replace HK:=Hd (HK.out.below S);clear S
        have P:=HK.out.koon j
        have HN:=HK;rw [← hl.out] at P;replace P:=Hd P;go_wp2_with fail;refine P.out.mono ?_;rintro e w6 ⟨⟨v,rfl,hv⟩,S⟩
        obtain ⟨base,cap2,g,cs,rfl,hm,hb⟩:=ints_bx HN.out hv
        clear hv P HN;unfold maxLen at hm;replace HL:=Hd (HL.out.below S);replace HK:=Hd (HK.out.below S);clear S
        obtain ⟨m,hm2⟩:∃ m,m=l.length:=⟨_,rfl⟩
        rw [← hm2] at hb hm ⊢;replace hb:=Hd hb;replace hm2:=Hd hm2;go_wp2
        go_loopw [14,12] (fun jv cv wr=>∃ (x:Nat),jv=.int .i64 x∧x≤m∧cv=.bool (w4 || (l.take x).any (irqReady k.iq))∧Hid (KAt wr F' p f k)∧Hid (Lk w1 (Plus W w1 (fun _=>False)) wr F')∧Hid (0 < m→Bx wr F' g cs 3)) (fun jv _ _=>m - (intOf jv).toNat)
        case atStart=>exact ⟨0,rfl,by omega,by simp,HK,HL,Hd (fun e=>(hb.out e).2.1)⟩
        case round =>
         clear HK HL;obtain ⟨x,rfl,hx,rfl,HK,HL,HB⟩:=hrel
         obtain ⟨wv,hwv⟩:∃ b,b=(w4 || (l.take x).any (irqReady k.iq)):=⟨_,rfl⟩
         rw [← hwv]
         by_cases hlt:x < m
         ·replace hwv:=Hd hwv
          obtain ⟨rfl,-,hcs⟩:=hb.out (by omega)
          have hc:=(HB.out (by omega)).cell x
          rw [hcs x hlt] at hc
          have hst:=any_more l (irqReady k.iq) x (by rw [← hm2.out];exact hlt)
          generalize l.getD x 0=y at hc hst;replace hst:=Hd hst;clear hcs
          cases wv with
          | true =>
           go_wp2_with fail;go_quiet (fail);replace HL:=Hd (HL.out.drewN nq);replace HK:=Hd (HK.out.drewN nq)
           replace HB:=Hd (fun e=>(HB.out e).drewN nq)
           go_wp2;go_roundw
           case rel=>exact ⟨x+1,by go_num,hlt,by rw [hst.out,← Bool.or_assoc,← hwv.out];rfl,HK,HL,HB⟩
           case measure=>simp [intOf];omega
          | false =>
           have A1:=fun z:Aft wr=>Hd (HK.out.below z.h).k_irqs
           have A2:=fun z:Aft wr=>Hd ((HK.out.below z.h).kiready y)
           have cc:=fun z:Aft wr=>keepcell z.h hc
           go_wp2_with fail
           refine wp_region_aft ?_ ?_ ?_;(kernel_rfl);(kernel_rfl);(repeat (go_big_quiet_step (first | (go_at_call 31;exact quiet_aft (A1 _).out) | (go_at_call 32;exact quiet_aft0 (A2 _).out))));refine wpQuiet_nil ?_;rintro _ ⟨nx,rfl⟩
           replace HL:=Hd (HL.out.below nx.h);replace HK:=Hd (HK.out.below nx.h)
           replace HB:=Hd (fun e=>(HB.out e).lk (Lk.of_below nx.h))
           go_wp2;go_roundw
           case rel=>exact ⟨x+1,by go_num,hlt,by rw [hst.out,← Bool.or_assoc,← hwv.out];rfl,HK,HL,HB⟩
           case measure=>simp [intOf];omega
         ·have e:x=m:=by omega
          subst e;rw [hm2.out,List.take_length] at hwv;have law2:=law.out;rw [← hwv] at law2;clear hlt hx HB hb hwv law hm
          obtain ⟨r1,hr1⟩:∃ r,r=kDo k (stepE j):=⟨_,rfl⟩
          have okr:KOk r1.1:=by rw [hr1];exact (kDo_ok ok.out.1 _).1
          rw [← hr1] at law2;obtain ⟨k1,rs⟩:=r1;dsimp only at law2 okr;obtain ⟨e1,e2,e3⟩:=law2;subst e1;replace hr1:=Hd hr1;replace e2:=Hd e2;replace e3:=Hd e3;replace okr:=Hd okr
          go_upto_region 17 with fail
          go_cut [15] from 123 to 138 (fun c wx=>c=.bool ot∧Hid (KAt wx F' p f k)∧Hid (Lk w1 (Plus W w1 (fun _=>False)) wx F'))
          case first =>
           have P:=Hd HK.out.k_stop;go_wp2_with fail;refine P.out.mono ?_;rintro e w5 ⟨rfl,S⟩;clear P;replace HL:=Hd (HL.out.below S);replace HK:=Hd (HK.out.below S);clear S
           have P:=HK.out.ksmust j
           rw [← es.out] at P;replace P:=Hd P;go_wp2_with fail;refine P.out.mono ?_;rintro e w6 ⟨rfl,nd,rfl⟩;clear P;replace HL:=Hd (HL.out.drewN nd);replace HK:=Hd (HK.out.drewN nd)
           cases vs with
           | true =>
            go_wp2_with fail
            go_meet
            exact ⟨by rw [hot.out];simp,HK,HL⟩
           | false =>
            have P:=Hd HK.out.k_desk;go_wp2_with fail;refine P.out.mono ?_;rintro e w5 ⟨rfl,S⟩;clear P;replace HL:=Hd (HL.out.below S);replace HK:=Hd (HK.out.below S);clear S;have P:=HK.out.kdbusy;rw [← eb.out] at P;replace P:=Hd P;go_wp2_with fail;refine P.out.mono ?_;rintro e w1 ⟨rfl,rfl⟩;clear P
            cases vb with
            | false =>
             go_wp2_with fail
             go_meet
             exact ⟨by rw [hot.out];simp,HK,HL⟩
            | true =>
             have P:=Hd HK.out.k_desk;go_wp2_with fail;refine P.out.mono ?_;rintro e w5 ⟨rfl,S⟩;clear P;replace HL:=Hd (HL.out.below S);replace HK:=Hd (HK.out.below S);clear S;have P:=HK.out.kdby;rw [← ey2.out] at P;replace P:=Hd P;go_wp2_with fail;refine P.out.mono ?_;rintro e w1 ⟨rfl,rfl⟩;clear P;go_wp2_with fail
             go_meet
             exact ⟨by rw [hot.out];simp,HK,HL⟩
          case rest =>
          obtain ⟨rfl,HK,HL⟩:=hcut
          have z0:In64 0:=by unfold In64;omega
          have zm:(0:Nat) < top64:=by unfold top64;omega
          have D1:Calls prog 13 #[.pointer (some ⟨p,0,none⟩),.agg #[.int .i64 1,.int .i64 j,.int .i64 0,.int .u64 0,.int .i64 0]] _ _:=HK.out.kdo' ok.out.1 (stepE j) zm z0
          rw [← hr1.out] at D1;replace D1:=Hd D1;go_wp2_with fail;refine D1.out.mono ?_;rintro e w7 ⟨v,rfl,hv⟩;clear D1;obtain ⟨F5,L1,K1,hv⟩:=hv
          obtain rfl:v=.slice none 0 0:=by
           rcases hv with ⟨-,h⟩ | ⟨_,_,h,-⟩
           ·exact h
           ·cases h
          clear hv;replace HL:=Hd (HL.out.trans L1);replace HK:=Hd K1;clear L1 K1;have P:=Hd HK.out.k_cores;go_wp2_with fail;refine P.out.mono ?_;rintro e w8 ⟨rfl,S⟩;clear P;replace HL:=Hd (HL.out.below S);replace HK:=Hd (HK.out.below S);clear S
          have P:=HK.out.kcget j
          obtain ⟨g,hg⟩:∃ g,g=coreGet k1.co j:=⟨_,rfl⟩
          have e2:=e2.out;rw [← hg] at P e2;clear hg
          obtain ⟨⟨power,idle,way,since,steps,busy⟩,why⟩:=g
          dsimp only [coreL] at P e2
          subst e2;replace P:=Hd P;go_wp2_with fail;refine P.out.mono ?_;rintro e w9 ⟨rfl,S⟩;clear P;replace HL:=Hd (HL.out.below S);replace HK:=Hd (HK.out.below S);clear S
          have HX:=HK.out.bx HL.out #[.bool power,.bool !(wv || ot),.int .i64 way,.int .i64 since,.int .i64 steps,.int .i64 busy] 32
          clear HL HK;obtain ⟨HB,HK,HL⟩:=HX;have b1:=HB.out.cell 1
          have D2:Calls prog 13 #[.pointer (some ⟨p,0,none⟩),.agg #[.int .i64 1,.int .i64 j,.int .i64 0,.int .u64 0,.int .i64 0]] _ _:=HK.out.kdo' okr.out (stepE j) zm z0
          cases wv with
          | false =>
           replace D2:=Hd D2
           cases ot
           all_goals
            go_wp2_with fail;refine D2.out.mono ?_;rintro e w10 ⟨v,rfl,hv⟩;clear D2 b1 HB;obtain ⟨F6,L1,K1,hv⟩:=hv
            obtain ⟨vl,vc,vb,rfl⟩:∃ vl vc vb,v=.slice vb vl vc:=by
             rcases hv with ⟨-,h⟩ | ⟨_,_,-,h,-⟩
             ·exact ⟨_,_,_,h⟩
             ·exact ⟨_,_,_,h⟩
            clear hv;replace HL:=Hd (HL.out.trans L1);replace HK:=Hd K1;clear L1 K1;have A:=Hd HK.out.kalive;go_wp2_with fail;refine A.out.mono ?_;rintro e w2 ⟨rfl,hb⟩;go_wp2;go_returns
            exact ⟨rfl,(top_below hb0.out HL.out).trans (hb.mono (top_below hb0.out HL.out).size)⟩
          | true =>
           cases ot with
           | true =>
            replace D2:=Hd D2;go_wp2_with fail;refine D2.out.mono ?_;rintro e w10 ⟨v,rfl,hv⟩;clear D2 b1 HB;obtain ⟨F6,L1,K1,hv⟩:=hv
            obtain ⟨vl,vc,vb,rfl⟩:∃ vl vc vb,v=.slice vb vl vc:=by
             rcases hv with ⟨-,h⟩ | ⟨_,_,-,h,-⟩
             ·exact ⟨_,_,_,h⟩
             ·exact ⟨_,_,_,h⟩
            clear hv;replace HL:=Hd (HL.out.trans L1);replace HK:=Hd K1;clear L1 K1;have A:=Hd HK.out.kalive;go_wp2_with fail;refine A.out.mono ?_;rintro e w2 ⟨rfl,hb⟩;go_wp2;go_returns
            exact ⟨rfl,(top_below hb0.out HL.out).trans (hb.mono (top_below hb0.out HL.out).size)⟩
           | false =>
            obtain ⟨r,er,rc,r2,r6⟩:=(e3.out.resolve_left (by decide)).resolve_left (by decide)
            rw [er] at D2;replace D2:=Hd D2;go_wp2_with fail;refine D2.out.mono ?_;rintro e w10 ⟨v,rfl,hv⟩;clear D2 b1 HB
            obtain ⟨F6,b,L1,K1,rfl,HR⟩:=recK_box hv
            clear hv er;obtain ⟨rk,rcc,ri,rn,rw2⟩:=r;dsimp only at rc r2 r6;subst rc;replace HL:=Hd (HL.out.trans L1);replace HK:=Hd K1;clear L1 K1;have b0:=HR.cell 0;have b1:=HR.cell 1
            dsimp only [recC] at b0 b1
            have A:=Hd HK.out.kalive;go_wp2_with fail;refine A.out.mono ?_;rintro e w2 ⟨rfl,hb⟩;go_wp2;go_returns
            exact ⟨rfl,(top_below hb0.out HL.out).trans (hb.mono (top_below hb0.out HL.out).size)⟩
    ·have g0:(why == 0)=false:=by simpa using hw
     have A:=Hd HK.out.kalive;go_wp2_with fail;refine A.out.mono ?_;rintro e w2 ⟨rfl,hb⟩;go_wp2;go_returns
     exact ⟨rfl,(top_below hb0.out HL.out).trans (hb.mono (top_below hb0.out HL.out).size)⟩
end
section
open Go.Proofs.YtiocbpabbjgkhaaGreatDoor.Open
theorem wakes_row (W:World) (hT:Tab W) (a0:Int) (w0:(Lit.int .i64 a0).wf=true) (a:Option Addr) (len cap:Nat) (V:Nat→Nat→Value) (row:StructRow W a len evKs V) (hle:len≤cap) (hb:len*40≤140737488351232) (a2:Int) (w2:(Lit.int .i64 a2).wf=true):Calls prog 4 #[.int .i64 a0,.slice a len cap,.int .i64 a2] W fun e W'=>e=.returned (.bool true)∧Below W.heap.size W W' :=
 wakes_any W hT a0 a2 a len cap (evs_in row)
end
end Go.Proofs.YtiocbpabbjgkhaaGreatDoor
