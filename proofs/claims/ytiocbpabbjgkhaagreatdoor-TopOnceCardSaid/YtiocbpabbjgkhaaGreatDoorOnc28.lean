/- Part 28 of the proof: contracts and plain laws, each under the conditions that it names. -/
import Derived.Test.YtiocbpabbjgkhaaGreatDoorOnc27
import Derived.Deep.CutRange
import Derived.StillTailTactics
set_option maxRecDepth 100000
set_option maxHeartbeats 20000000
set_option linter.unusedVariables false
set_option linter.unusedSimpArgs false
namespace Go.Proofs.YtiocbpabbjgkhaaGreatDoor
open Go.RowKit Go.Proofs.Tryz
variable {w w' : World} {F : Nat → Prop} {p : Nat} {f : KF} {k : K}
structure OnceSt (W w:World) (p:Nat) (f:KF) (F' Fb:Nat→Prop) (pb:Nat) (k:K) (b:Book):Prop where
 kat:KAt w F' p f k
 bat:BookAt w Fb pb b
 ap:∀ x,Fb x→¬ F' x
 kn:∀ x,F' x→W.heap.size≤x
 bn:∀ x,Fb x→W.heap.size≤x
 bel:Below W.heap.size W w
theorem OnceSt.below {W w w':World} {F' Fb:Nat→Prop} {pb:Nat} {b:Book} (h:OnceSt W w p f F' Fb pb k b) (hb:Below w.heap.size w w'):OnceSt W w' p f F' Fb pb k b :=
 ⟨h.kat.below hb,h.bat.below hb,h.ap,h.kn,h.bn,h.bel.trans (hb.mono h.bel.size)⟩
theorem OnceSt.did {W w w':World} {F' F4 Fb:Nat→Prop} {pb:Nat} {k k1:K} {b:Book} (h:OnceSt W w p f F' Fb pb k b) (L:Lk w F' w' F4) (K1:KAt w' F4 p f k1):OnceSt W w' p f F4 Fb pb k1 b :=
 ⟨K1,h.bat.ch L.1 h.ap,fun x hx e=>(L.2 x e).elim (h.ap x hx) (fun e=>by have:=h.bat.lt x hx;omega),fun x e=>(L.2 x e).elim (h.kn x) (fun e=>Nat.le_trans h.bel.size e.1),h.bn,
  h.bel.trans (L.1.below h.bel.size (fun x hx e=>by have:=h.kn x e;omega))⟩
theorem OnceSt.wrote {W w w':World} {F' Fb:Nat→Prop} {pb:Nat} {b b':Book} (h:OnceSt W w p f F' Fb pb k b) (h2:2 < W.heap.size) (S:BkS w w' Fb pb b'):OnceSt W w' p f F' (Plus w w' Fb) pb k b' :=
 ⟨h.kat.ch S.2 (fun x hx e=>h.ap x e hx) (fun e=>by have:=h.bn 2 e;omega),S.1,fun x hx e=>hx.elim (fun hx=>h.ap x hx e) (fun hx=>by have:=h.kat.ltF x e;omega),h.kn,fun x hx=>hx.elim (h.bn x) (fun hx=>Nat.le_trans h.bel.size hx.1),
  h.bel.trans (S.2.below h.bel.size (fun x hx e=>by have:=h.bn x e;omega))⟩
theorem OnceSt.mark {W w:World} {F' Fb:Nat→Prop} {pb:Nat} {b:Book} (h:OnceSt W w p f F' Fb pb k b) (h2:2 < W.heap.size) (ok:b.ok=true):OnceSt W (w.setCell ⟨pb,3,none⟩ (.bool true)) p f F' Fb pb k b:=by
 obtain ⟨v1,v2,v3,c,q⟩:=h.bat
 obtain ⟨q2,hc⟩:=q.setok true
 obtain ⟨x1,x2,x3,x4⟩:=b;dsimp only at ok;subst ok
 exact ⟨h.kat.ch hc (fun x hx e=>h.ap x e hx) (fun e=>by have:=h.bn 2 e;omega),⟨v1,v2,v3,c,q2⟩,h.ap,h.kn,h.bn,h.bel.trans (hc.below h.bel.size (fun x hx e=>by have:=h.bn x e;omega))⟩
theorem OnceSt.head {W w:World} {F' Fb:Nat→Prop} {pb:Nat} {b:Book} (h:OnceSt W w p f F' Fb pb k b):∃ a1 c1 a2 c2 a3 c3,Blk w pb #[.slice a1 b.works.length c1,.slice a2 b.calls.length c2,.slice a3 b.timers.length c3,.bool b.ok] 77 ∧
  (∀ i,i < b.works.length→∃ g,a1=some ⟨g,0,none⟩∧w.cell? ⟨g,i,none⟩=some (.int .i64 (b.works.getD i 0)))∧(∀ i,i < b.calls.length→∃ g,a2=some ⟨g,0,none⟩∧w.cell? ⟨g,i,none⟩=some (.int .i64 (b.calls.getD i 0)))∧(∀ i,i < b.timers.length→∃ g,a3=some ⟨g,0,none⟩∧w.cell? ⟨g,i,none⟩=some (.int .i64 (b.timers.getD i 0))):=by
 obtain ⟨v1,v2,v3,c,q⟩:=h.bat
 have g:∀ {v:Value} {l:List Int} {G:Nat→Prop},IntsAt w G v l→∃ a c,v=.slice a l.length c∧∀ i,i < l.length→∃ g,a=some ⟨g,0,none⟩∧w.cell? ⟨g,i,none⟩=some (.int .i64 (l.getD i 0)):=by
  intro v l G hv
  by_cases hn:0 < l.length
  ·obtain ⟨g,cap,rfl,-,-,-,-,hc,-⟩:=hv.open hn
   exact ⟨_,cap,rfl,fun i hi=>⟨g,rfl,hc i hi⟩⟩
  ·obtain ⟨a,cap,rfl⟩:=RowAt.form hv
   exact ⟨a,cap,rfl,fun i hi=>by omega⟩
 obtain ⟨a1,c1,rfl,g1⟩:=g q.i1
 obtain ⟨a2,c2,rfl,g2⟩:=g q.i2
 obtain ⟨a3,c3,rfl,g3⟩:=g q.i3
 exact ⟨a1,c1,a2,c2,a3,c3,q.head,g1,g2,g3⟩
section
open Go.Proofs.YtiocbpabbjgkhaaGreatDoor.NumD
theorem bk0_at {W:World} (w:World) (hb:Below W.heap.size W w) (h:KAt w F p f k) (hF:∀ x,F x→W.heap.size≤x):OnceSt W (w.alloc (.cells #[.slice none 0 0,.slice none 0 0,.slice none 0 0,.bool true] 77)) p f F (fun x=>x=w.heap.size) w.heap.size k ⟨[],[],[],true⟩ :=
 ⟨h.alloc _,⟨_,_,_,fun _=>0,Blk.new _ _ _,⟨rfl,rfl⟩,IntsAt.nil _ _,IntsAt.nil _ _,IntsAt.nil _ _,fun x e=>by subst e;simp⟩,fun x e hx=>by have:=h.ltF x hx;omega,hF,fun x e=>by subst e;exact hb.size,hb.alloc hb.size _⟩
theorem once_any (W:World) (hT:Tab W) (cpus:Int) (a:Option Addr) (len cap:Nat) {E:Nat→Ev} (hE:EvsIn W a len E):Calls prog 5 #[.int .i64 cpus,.slice a len cap] W fun e w'=>e=.returned (.bool true)∧Below W.heap.size W w':=by
 have h2:=hT.two
 by_cases hc:cpus < 1∨64 < cpus
 ·have N:=Hd (new_no W cpus hc)
  have A:=Hd (alive_any W hT h2);clear hE hT h2 hc
  go_enter func5,ntmps5
  go_wp2_with fail;refine N.out.mono ?_;rintro e w1 ⟨rfl,rfl⟩;go_wp2_with fail;refine A.out.mono ?_;rintro e w1 ⟨rfl,hb⟩;go_wp2;go_returns
  exact ⟨rfl,hb⟩
 obtain ⟨n,rfl⟩:∃ n:Nat,cpus=n:=⟨cpus.toNat,by omega⟩
 have hn1:1≤n:=by omega
 have N:=Hd (new_any W n hn1 (by omega) hT h2)
 have FW:=fun w=>few_any w n a len cap
 obtain ⟨fw,hfw⟩:∃ b,b=(decide (1≤(n:Int)) && decide ((n:Int)≤9) && decide (len≤300)):=⟨_,rfl⟩
 simp only [← hfw] at FW
 clear hc hT;replace h2:=Hd h2;replace hE:=Hd hE
 replace FW:=fun w=>Hd (FW w)
 cases fw with
 | false =>
  clear hfw hE
  go_enter func5,ntmps5
  go_wp2_with fail;refine N.out.mono ?_;rintro e w1 ⟨⟨p,f,rfl,HK⟩,hb0⟩;replace HK:=Hd HK;replace hb0:=Hd hb0;clear N
  have B:=FW w1
  go_wp2_with fail;refine B.out.mono ?_;rintro e w1 ⟨rfl,rfl⟩;have A:=Hd HK.out.kalive;go_wp2_with fail;refine A.out.mono ?_;rintro e w2 ⟨rfl,hb⟩;go_wp2;go_returns
  exact ⟨rfl,hb0.out.trans (hb.mono hb0.out.size)⟩
 | true =>
  obtain ⟨h9,hlen⟩:=few_cases hfw
  clear hfw
  go_enter func5,ntmps5
  go_wp2_with fail;refine N.out.mono ?_;rintro e w1 ⟨⟨p,f,rfl,HK⟩,hb0⟩;replace HK:=Hd HK;replace hb0:=Hd hb0;clear N
  have B:=FW w1
  go_wp2_with fail;refine B.out.mono ?_;rintro e w1 ⟨rfl,rfl⟩;clear FW B
  have HS:=Hd (bk0_at w1 hb0.out HK.out (fun x e=>e.elim (fun e=>e.elim) (fun e=>e.1)))
  obtain ⟨pb,hpb⟩:∃ pb,pb=w1.heap.size:=⟨_,rfl⟩
  rw [← hpb] at HS;have hpb2:=hpb.symm;replace hpb:=Hd hpb;go_wp2
  go_loopw [8,9,10,11,12] (fun iv _ _ _ _ wr=>∃ (i:Nat) (F' Fb:Nat→Prop) (bk:Book),iv=.int .i64 i∧i≤len∧Hid (OnceSt W wr p f F' Fb pb (kPlay (kNew n) E i) bk)∧Hid (Bk (kPlay (kNew n) E i) bk)) (fun iv _ _ _ _ _=>len - (intOf iv).toNat)
  case atStart=>exact ⟨0,_,_,_,rfl,by omega,HS,Hd (kNew_bk n)⟩
  case round =>
   clear HS HK;obtain ⟨i,F',Fb,bk,rfl,hi1,HS,HBk⟩:=hrel
   by_cases hlt:i < len
   ·obtain ⟨b,off,rfl⟩:=hE.out.base (by omega)
    obtain ⟨c0,c1,c2,c3,c4⟩:=(hE.out.below HS.out.bel).at hlt
    obtain ⟨hm,-,-,-,hn⟩:=hE.out.ok i hlt
    have hst:Hid (kPlay (kNew n) E (i+1)=(kDo (kPlay (kNew n) E i) (E i)).1):=Hd rfl
    have ok:=Hd (kPlay_ok (kNew_ok n) E i)
    obtain ⟨k,hk⟩:∃ k,k=kPlay (kNew n) E i:=⟨_,rfl⟩
    rw [← hk] at HS HBk ok hst;replace hk:=Hd hk
    obtain ⟨ev,hev⟩:∃ ev,ev=E i:=⟨_,rfl⟩
    rw [← hev] at c0 c1 c2 c3 c4 hm hn hst;replace hev:=Hd hev
    have nxt:=HBk.out.next ok.out.1 ev
    have sh:=Hd (HBk.out.short ok.out.1)
    have D1:=fun (w':World) (F':Nat→Prop) (h:KAt w' F' p f k)=>h.kdo' ok.out.1 ev hm hn
    have RT:=fun (w':World) (Fb:Nat→Prop) (h:BookAt w' Fb pb bk) (id t:Int)=>ret_any h sh.out ev id t p
    obtain ⟨kind,ecpu,id,m,nn⟩:=ev;unfold evC at D1 RT
    try dsimp only at c0 c1 c2 c3 c4 D1 nxt RT
    obtain ⟨g,hg⟩:∃ g,g=thGet k.th id:=⟨_,rfl⟩
    have G1:=fun (w':World) (h:KAt w' F' p f k)=>Hd h.k_threads
    have G2:=fun (w':World) (h:KAt w' F' p f k)=>h.ktget id
    rw [← hg] at G2 nxt;clear hg
    obtain ⟨⟨t0,t1,t2,t3,t4,tt⟩,why⟩:=g
    dsimp only [thCells] at G2 nxt
    obtain ⟨r,hr⟩:∃ r,r=kDo k ⟨kind,ecpu,id,m,nn⟩:=⟨_,rfl⟩
    rw [← hr] at D1 nxt hst;obtain ⟨k1,rs⟩:=r
    try dsimp only at D1 nxt hst
    obtain ⟨ok1,cp1,bk1⟩:=nxt;clear hr hm hn ok;replace bk1:=Hd bk1;replace ok1:=Hd ok1;replace cp1:=Hd cp1;have cc:=c2;have HK:=Hd HS.out.kat
    go_upto_region 8 with fail
    go_cut [9,10] from 38 to 98 (fun s s' wx=>∃ bb,s=.pointer (some ⟨bb,0,none⟩)∧s'=.int .i64 why∧Hid (OnceSt W wx p f F' Fb pb k bk)∧Hid (Bx wx F' bb #[.int .i64 t0,.int .u64 t1,.int .i64 t2,.bool t3,.bool t4,.int .i64 tt] 79))
    case first=>as_aux_lemma =>
     have hold:∀ w',Below wr.heap.size wr w'→w'.cell? ⟨b,off+i*5+2,none⟩=some (.int .i64 id)∧Below wr.heap.size wr w':=fun w' hb=>⟨keepcell hb cc,hb⟩
     refine wp_region_noPanic ?_
     refine wp_region_held_drew (S:=fun w'=>w'.cell? ⟨b,off+i*5+2,none⟩=some (.int .i64 id)∧Below wr.heap.size wr w') (by kernel_rfl) (hold _ (Below.refl _ _).drew) (fun hHeld=>?_)
     replace hold:=Hd hold
     refine wpAnyH_take (i:=0) (oi:=?_) (v:=?_) ?_ (by kernel_rfl) (by kernel_rfl) (by kernel_rfl) ?_ (Or.inl ⟨?_,?_⟩) hHeld ?_
     rotate_left 2
     ·simp only [sD,sE,sF];rfl
     ·exact fun _ _ _ h=>h
     ·rfl
     ·intro w' hSw;(try dsimp only at hSw);go_simp;(try with_reducible rfl)
     (try simp only [Act.put,sA,sB,sC])
     refine wpAnyH_take (i:=2) (oi:=?_) (v:=?_) ?_ (by kernel_rfl) (by kernel_rfl) (by kernel_rfl) ?_ (Or.inl ⟨?_,?_⟩) hHeld ?_
     rotate_left 2
     ·simp only [sD,sE,sF];rfl
     ·exact fun _ _ _ h=>h
     ·rfl
     ·intro w' hSw;(try dsimp only at hSw);go_simp;(try with_reducible rfl)
     (try simp only [Act.put,sA,sB,sC])
     refine wpAnyH_take (i:=3) (oi:=?_) (v:=?_) ?_ (by kernel_rfl) (by kernel_rfl) (by kernel_rfl) ?_ (Or.inl ⟨?_,?_⟩) hHeld ?_
     rotate_left 2
     ·simp only [sD,sE,sF];rfl
     ·exact fun _ _ _ h=>h
     ·rfl
     ·intro w' hSw;(try dsimp only at hSw);go_simp;(try with_reducible rfl)
     (try simp only [Act.put,sA,sB,sC])
     refine wpAnyH_take (i:=4) (oi:=?_) (v:=?_) ?_ (by kernel_rfl) (by kernel_rfl) (by kernel_rfl) ?_ (Or.inl ⟨?_,?_⟩) hHeld ?_
     rotate_left 2
     ·simp only [sD,sE,sF];rfl
     ·exact fun _ _ _ h=>h
     ·rfl
     ·intro w' hSw;(try dsimp only at hSw);go_simp;(try with_reducible rfl)
     (try simp only [Act.put,sA,sB,sC])
     refine wpAnyH_take (i:=5) (oi:=?_) (v:=?_) ?_ (by kernel_rfl) (by kernel_rfl) (by kernel_rfl) ?_ (Or.inl ⟨?_,?_⟩) hHeld ?_
     rotate_left 2
     ·simp only [sD,sE,sF];rfl
     ·exact fun _ _ _ h=>h
     ·rfl
     ·intro w' hSw;(try dsimp only at hSw);go_simp;(try with_reducible rfl)
     (try simp only [Act.put,sA,sB,sC])
     refine wpAnyH_take (i:=6) (oi:=?_) (v:=?_) ?_ (by kernel_rfl) (by kernel_rfl) (by kernel_rfl) ?_ (Or.inl ⟨?_,?_⟩) hHeld ?_
     rotate_left 2
     ·simp only [sD,sE,sF];rfl
     ·exact fun _ _ _ h=>h
     ·rfl
     ·intro w' hSw;(try dsimp only at hSw);go_simp;(try with_reducible rfl)
     (try simp only [Act.put,sA,sB,sC])
     refine wpAnyH_ready (rs:=[1,11]) (by kernel_rfl) (by simp) ?_
     refine AllReadyH.cons (o:=?_) ?_ (fun K hK=>?_) (AllReadyH.cons (o:=?_) ?_ (fun K hK=>?_) AllReadyH.nil)
     rotate_left 1
     ·simp only [List.getElem?_toArray,List.getElem?_cons_zero,List.getElem?_cons_succ];rfl
     rotate_left 2
     ·simp only [List.getElem?_toArray,List.getElem?_cons_zero,List.getElem?_cons_succ];rfl
     ·go_simp
      have hz:Below wr.heap.size wr (wr.alloc (.cells #[.int .i64 0,.int .u64 0,.int .i64 0,.bool false,.bool false,.int .i64 0] 79)).drew:=((Below.refl _ _).alloc (Nat.le_refl _) _).drew
      replace hz:=Hd hz
      have hHeld:=hold.out _ hz.out
      refine hK.out _ _ hHeld (fun hHeld=>?_)
      clear hK K
      (try simp only [Act.put,List.setIfInBounds_toArray,List.set_cons_zero,List.set_cons_succ])
      have Z0:Bx (wr.alloc (.cells #[.int .i64 0,.int .u64 0,.int .i64 0,.bool false,.bool false,.int .i64 0] 79)).drew F' wr.heap.size #[.int .i64 0,.int .u64 0,.int .i64 0,.bool false,.bool false,.int .i64 0] 79:=(Bx.new HK.out #[.int .i64 0,.int .u64 0,.int .i64 0,.bool false,.bool false,.int .i64 0] 79).drewN 1
      refine wpAnyH_ready (rs:=[1]) (by kernel_rfl) (by simp) ?_
      refine AllReadyH.cons (o:=?_) ?_ (fun K hK=>?_) AllReadyH.nil
      rotate_left 1
      ·simp only [sD,sE,sF];rfl
      go_simp
      (refine (G1 _ (HK.out.below hz.out)).out.mono ?_;rintro e w2 ⟨rfl,S2⟩;have hb2:Below wr.heap.size wr w2:=hz.out.trans (S2.mono hz.out.size);have hHeld:=hold.out _ hb2;have Z2:=Z0.lk (Lk.of_below S2))
      refine hK.out _ _ hHeld (fun hHeld=>?_)
      clear hK K
      (try simp only [Act.put,sA,sB,sC])
      refine wpAnyH_ready (rs:=[7]) (by kernel_rfl) (by simp) ?_
      refine AllReadyH.cons (o:=?_) ?_ (fun K hK=>?_) AllReadyH.nil
      rotate_left 1
      ·simp only [sD,sE,sF];rfl
      go_simp
      (refine (G2 _ (HK.out.below hb2)).mono ?_;rintro e w3 ⟨rfl,S3⟩;have hb3:=hb2.trans (S3.mono hb2.size);have hHeld:=hold.out _ hb3;have Z3:=Hd (Z2.lk (Lk.of_below S3)))
      refine hK.out _ _ hHeld (fun hHeld=>?_)
      clear hK K
      (try simp only [Act.put,sA,sB,sC])
      refine wpAnyH_take (i:=8) (oi:=?_) (v:=?_) ?_ (by kernel_rfl) (by kernel_rfl) (by kernel_rfl) ?_ (Or.inl ⟨?_,?_⟩) hHeld ?_
      rotate_left 2
      ·simp only [sD,sE,sF];rfl
      ·exact fun _ _ _ h=>h
      ·rfl
      ·intro w' hSw;(try dsimp only at hSw);go_simp;(try with_reducible rfl)
      (try simp only [Act.put,sA,sB,sC])
      refine wpAnyH_take (i:=9) (oi:=?_) (v:=?_) ?_ (by kernel_rfl) (by kernel_rfl) (by kernel_rfl) ?_ (Or.inl ⟨?_,?_⟩) hHeld ?_
      rotate_left 2
      ·simp only [sD,sE,sF];rfl
      ·exact fun _ _ _ h=>h
      ·rfl
      ·intro w' hSw;(try dsimp only at hSw);go_simp;(try with_reducible rfl)
      (try simp only [Act.put,sA,sB,sC])
      refine wpAnyH_take (i:=10) (oi:=?_) (v:=?_) ?_ (by kernel_rfl) (by kernel_rfl) (by kernel_rfl) ?_ (Or.inl ⟨?_,?_⟩) hHeld ?_
      rotate_left 2
      ·simp only [sD,sE,sF];rfl
      ·exact fun _ _ _ h=>h
      ·rfl
      ·intro w' hSw;(try dsimp only at hSw);go_simp;(try with_reducible rfl)
      (try simp only [Act.put,sA,sB,sC])
      obtain ⟨u0x,u1x,u2x,u3x,u4x,u5x,⟨y0,y1,y2,y3,y4,y5⟩,⟨f0,f1,f2,f3,f4,f5⟩,hB,hb6⟩:=six Z3.out.blk rfl (n:=wr.heap.size) (Nat.le_refl _) hb3 (.int .i64 t0) (.int .u64 t1) (.int .i64 t2) (.bool t3) (.bool t4) (.int .i64 tt)
      have hHeld6:=hold.out _ hb6
      refine wpAnyH_ready (rs:=[12]) (by kernel_rfl) (by simp) ?_
      refine AllReadyH.cons (o:=?_) ?_ (fun K hK=>?_) AllReadyH.nil
      rotate_left 1
      ·simp only [sD,sE,sF];rfl
      go_simp
      refine hK.out _ _ hHeld6 (fun hHeld=>?_)
      clear hK K
      (try simp only [Act.put,sA,sB,sC])
      refine wpAnyH_ready (rs:=[13]) (by kernel_rfl) (by simp) ?_
      refine AllReadyH.cons (o:=?_) ?_ (fun K hK=>?_) AllReadyH.nil
      rotate_left 1
      ·simp only [sD,sE,sF];rfl
      go_simp
      refine hK.out _ _ hHeld6 (fun hHeld=>?_)
      clear hK K
      (try simp only [Act.put,sA,sB,sC])
      refine wpAnyH_done (by kernel_rfl) (NoPanic.normal ?_) _
      go_wp2_with fail
      go_meet
      exact ⟨_,rfl,rfl,Hd (HS.out.below hb6),Hd ⟨hB,Z3.out.off⟩⟩
     ·go_simp
      refine (G1 _ (HK.out.drewN 1)).out.mono ?_
      rintro e w2 ⟨rfl,S2⟩
      have hb2:Below wr.heap.size wr w2:=(belowN wr 1).trans (S2.mono (by simp))
      have hHeld:=hold.out _ hb2
      refine hK.out _ _ hHeld (fun hHeld=>?_)
      clear hK K
      (try simp only [Act.put,List.setIfInBounds_toArray,List.set_cons_zero,List.set_cons_succ])
      refine wpAnyH_ready (rs:=[7,11]) (by kernel_rfl) (by simp) ?_
      refine AllReadyH.cons (o:=?_) ?_ (fun K hK=>?_) (AllReadyH.cons (o:=?_) ?_ (fun K hK=>?_) AllReadyH.nil)
      rotate_left 1
      ·simp only [List.getElem?_toArray,List.getElem?_cons_zero,List.getElem?_cons_succ];rfl
      rotate_left 2
      ·simp only [List.getElem?_toArray,List.getElem?_cons_zero,List.getElem?_cons_succ];rfl
      ·go_simp
       have hz:=hb2.alloc hb2.size (.cells #[.int .i64 0,.int .u64 0,.int .i64 0,.bool false,.bool false,.int .i64 0] 79)
       have hHeld:=hold.out _ hz
       refine hK.out _ _ hHeld (fun hHeld=>?_)
       clear hK K
       (try simp only [Act.put,List.setIfInBounds_toArray,List.set_cons_zero,List.set_cons_succ])
       have Z0:=Bx.new (HK.out.below hb2) #[.int .i64 0,.int .u64 0,.int .i64 0,.bool false,.bool false,.int .i64 0] 79
       have hn2:=hb2.size
       refine wpAnyH_ready (rs:=[7]) (by kernel_rfl) (by simp) ?_
       refine AllReadyH.cons (o:=?_) ?_ (fun K hK=>?_) AllReadyH.nil
       rotate_left 1
       ·simp only [sD,sE,sF];rfl
       go_simp
       (refine (G2 _ (HK.out.below hz)).mono ?_;rintro e w3 ⟨rfl,S3⟩;have hb3:=hz.trans (S3.mono hz.size);have hHeld:=hold.out _ hb3;have Z3:=Hd (Z0.lk (Lk.of_below S3)))
       refine hK.out _ _ hHeld (fun hHeld=>?_)
       clear hK K
       (try simp only [Act.put,sA,sB,sC])
       refine wpAnyH_take (i:=8) (oi:=?_) (v:=?_) ?_ (by kernel_rfl) (by kernel_rfl) (by kernel_rfl) ?_ (Or.inl ⟨?_,?_⟩) hHeld ?_
       rotate_left 2
       ·simp only [sD,sE,sF];rfl
       ·exact fun _ _ _ h=>h
       ·rfl
       ·intro w' hSw;(try dsimp only at hSw);go_simp;(try with_reducible rfl)
       (try simp only [Act.put,sA,sB,sC])
       refine wpAnyH_take (i:=9) (oi:=?_) (v:=?_) ?_ (by kernel_rfl) (by kernel_rfl) (by kernel_rfl) ?_ (Or.inl ⟨?_,?_⟩) hHeld ?_
       rotate_left 2
       ·simp only [sD,sE,sF];rfl
       ·exact fun _ _ _ h=>h
       ·rfl
       ·intro w' hSw;(try dsimp only at hSw);go_simp;(try with_reducible rfl)
       (try simp only [Act.put,sA,sB,sC])
       refine wpAnyH_take (i:=10) (oi:=?_) (v:=?_) ?_ (by kernel_rfl) (by kernel_rfl) (by kernel_rfl) ?_ (Or.inl ⟨?_,?_⟩) hHeld ?_
       rotate_left 2
       ·simp only [sD,sE,sF];rfl
       ·exact fun _ _ _ h=>h
       ·rfl
       ·intro w' hSw;(try dsimp only at hSw);go_simp;(try with_reducible rfl)
       (try simp only [Act.put,sA,sB,sC])
       obtain ⟨u0x,u1x,u2x,u3x,u4x,u5x,⟨y0,y1,y2,y3,y4,y5⟩,⟨f0,f1,f2,f3,f4,f5⟩,hB,hb6⟩:=six Z3.out.blk rfl (n:=wr.heap.size) hn2 hb3 (.int .i64 t0) (.int .u64 t1) (.int .i64 t2) (.bool t3) (.bool t4) (.int .i64 tt)
       have hHeld6:=hold.out _ hb6
       refine wpAnyH_ready (rs:=[12]) (by kernel_rfl) (by simp) ?_
       refine AllReadyH.cons (o:=?_) ?_ (fun K hK=>?_) AllReadyH.nil
       rotate_left 1
       ·simp only [sD,sE,sF];rfl
       go_simp
       refine hK.out _ _ hHeld6 (fun hHeld=>?_)
       clear hK K
       (try simp only [Act.put,sA,sB,sC])
       refine wpAnyH_ready (rs:=[13]) (by kernel_rfl) (by simp) ?_
       refine AllReadyH.cons (o:=?_) ?_ (fun K hK=>?_) AllReadyH.nil
       rotate_left 1
       ·simp only [sD,sE,sF];rfl
       go_simp
       refine hK.out _ _ hHeld6 (fun hHeld=>?_)
       clear hK K
       (try simp only [Act.put,sA,sB,sC])
       refine wpAnyH_done (by kernel_rfl) (NoPanic.normal ?_) _
       go_wp2_with fail
       go_meet
       exact ⟨_,rfl,rfl,Hd (HS.out.below hb6),Hd ⟨hB,Z3.out.off⟩⟩
      ·go_simp
       refine (G2 _ (HK.out.below hb2)).mono ?_
       rintro e w3 ⟨rfl,S3⟩
       have hb3:=hb2.trans (S3.mono hb2.size)
       have hHeld:=hold.out _ hb3
       refine hK.out _ _ hHeld (fun hHeld=>?_)
       clear hK K
       (try simp only [Act.put,List.setIfInBounds_toArray,List.set_cons_zero,List.set_cons_succ])
       refine wpAnyH_take (i:=8) (oi:=?_) (v:=?_) ?_ (by kernel_rfl) (by kernel_rfl) (by kernel_rfl) ?_ (Or.inl ⟨?_,?_⟩) hHeld ?_
       rotate_left 2
       ·simp only [sD,sE,sF];rfl
       ·exact fun _ _ _ h=>h
       ·rfl
       ·intro w' hSw;(try dsimp only at hSw);go_simp;(try with_reducible rfl)
       (try simp only [Act.put,sA,sB,sC])
       refine wpAnyH_take (i:=9) (oi:=?_) (v:=?_) ?_ (by kernel_rfl) (by kernel_rfl) (by kernel_rfl) ?_ (Or.inl ⟨?_,?_⟩) hHeld ?_
       rotate_left 2
       ·simp only [sD,sE,sF];rfl
       ·exact fun _ _ _ h=>h
       ·rfl
       ·intro w' hSw;(try dsimp only at hSw);go_simp;(try with_reducible rfl)
       (try simp only [Act.put,sA,sB,sC])
       refine wpAnyH_take (i:=10) (oi:=?_) (v:=?_) ?_ (by kernel_rfl) (by kernel_rfl) (by kernel_rfl) ?_ (Or.inl ⟨?_,?_⟩) hHeld ?_
       rotate_left 2
       ·simp only [sD,sE,sF];rfl
       ·exact fun _ _ _ h=>h
       ·rfl
       ·intro w' hSw;(try dsimp only at hSw);go_simp;(try with_reducible rfl)
       (try simp only [Act.put,sA,sB,sC])
       have hHeldz:=hold.out _ (hb3.alloc hb3.size (.cells #[.int .i64 0,.int .u64 0,.int .i64 0,.bool false,.bool false,.int .i64 0] 79))
       have hbx:=hb3.alloc hb3.size (.cells #[.int .i64 t0,.int .u64 t1,.int .i64 t2,.bool t3,.bool t4,.int .i64 tt] 79)
       have hHeldx:=hold.out _ hbx
       have Z3:=Bx.new (HK.out.below hb3) #[.int .i64 t0,.int .u64 t1,.int .i64 t2,.bool t3,.bool t4,.int .i64 tt] 79
       refine wpAnyH_ready (rs:=[11]) (by kernel_rfl) (by simp) ?_
       refine AllReadyH.cons (o:=?_) ?_ (fun K hK=>?_) AllReadyH.nil
       rotate_left 1
       ·simp only [sD,sE,sF];rfl
       go_simp
       refine hK.out _ _ hHeldz (fun hHeld=>?_)
       clear hK K
       (try simp only [Act.put,sA,sB,sC])
       refine wpAnyH_ready (rs:=[12]) (by kernel_rfl) (by simp) ?_
       refine AllReadyH.cons (o:=?_) ?_ (fun K hK=>?_) AllReadyH.nil
       rotate_left 1
       ·simp only [sD,sE,sF];rfl
       go_simp
       refine hK.out _ _ hHeldx (fun hHeld=>?_)
       clear hK K
       (try simp only [Act.put,sA,sB,sC])
       refine wpAnyH_ready (rs:=[13]) (by kernel_rfl) (by simp) ?_
       refine AllReadyH.cons (o:=?_) ?_ (fun K hK=>?_) AllReadyH.nil
       rotate_left 1
       ·simp only [sD,sE,sF];rfl
       go_simp
       refine hK.out _ _ hHeldx (fun hHeld=>?_)
       clear hK K
       (try simp only [Act.put,sA,sB,sC])
       refine wpAnyH_done (by kernel_rfl) (NoPanic.normal ?_) _
       go_wp2_with fail
       go_meet
       exact ⟨_,rfl,rfl,Hd (HS.out.below hbx),Hd Z3⟩
    case rest =>
    obtain ⟨bb,rfl,rfl,HS2,HT⟩:=hcut;clear HS HK;have HS:=HS2;clear HS2 G1 G2 c0 c1 c2 c3 c4 cc
    obtain ⟨c0,c1,c2,c3,c4⟩:=(hE.out.below HS.out.bel).at hlt
    rw [← hev.out] at c0 c1 c2 c3 c4
    try dsimp only at c0 c1 c2 c3 c4
    have D2:=Hd (D1 _ _ HS.out.kat);clear D1;go_wp2_with fail;refine D2.out.mono ?_;rintro e w5 ⟨v,rfl,hv⟩;clear D2 c0 c1 c2 c3 c4;obtain ⟨F4,L1,K1,hv⟩:=hv;have HT5:=Hd (HT.out.lk L1);replace HS:=Hd (HS.out.did L1 K1);clear L1 K1 HT;have HT:=HT5;clear HT5
    rcases hv with ⟨rfl,rfl⟩ | ⟨gr,r0,rfl,rfl,hk2,-⟩
    ·go_wp2_with fail
     refine wp_loop_rounds 1 ?_
     rw [rounds_succ];go_wp2;go_roundw
     case rel=>exact ⟨i+1,F4,Fb,bk,by go_num,hlt,by rw [hst.out];exact HS,by rw [hst.out];exact bk1⟩
     case measure=>simp [intOf];omega
    ·obtain ⟨rk,rc,ri,rn,rw0⟩:=r0
     have d0:=hk2.cell 0;have d1:=hk2.cell 1;have d2:=hk2.cell 2;have d3:=hk2.cell 3;have d4:=hk2.cell 4
     try dsimp only [recC] at d0 d1 d2 d3 d4
     have bk2:=bk1.out;unfold play at bk2
     simp only [List.foldl_cons,List.foldl_nil] at bk2
     unfold play1 at bk2
     try dsimp only at bk2
     replace hk2:=Hd hk2;clear bk1
     by_cases h1:rk=1
     ·subst h1
      rw [if_neg (by decide)] at bk2
      by_cases hw:rw0=0
      ·subst hw
       rw [if_pos rfl] at bk2;replace bk2:=Hd bk2
       obtain ⟨c0,c1,c2,c3,c4⟩:=(hE.out.below HS.out.bel).at hlt
       rw [← hev.out] at c0 c1 c2 c3 c4
       try dsimp only at c0 c1 c2 c3 c4
       have x5:=HT.out.cell 5
       try dsimp only at x5
       have RT1:=Hd (RT _ _ (HS.out.bat.below (Below.refl _ _).drew) ri tt)
       go_wp2_with fail
       refine wp_loop_rounds 2 ?_
       rw [rounds_succ];go_wp2_with fail
       go_still_tail 13,(by kernel_rfl)
       change wpList _ _ _ _ _ w5.drew
       go_wp2_with fail;refine RT1.out.mono ?_;rintro e w6 ⟨rfl,S⟩
       replace HS:=Hd ((HS.out.below (Below.refl _ _).drew).wrote h2.out S)
       clear S RT1 c0 c1 c2 c3 c4 x5 d0 d1 d2 d3 d4;go_wp2;rw [rounds_succ];go_wp2;go_roundw
       case rel=>exact ⟨i+1,F4,_,_,by go_num,hlt,by rw [hst.out];exact HS,by rw [hst.out];exact bk2⟩
       case measure=>simp [intOf];omega
      ·rw [if_neg hw] at bk2
       replace bk2:=Hd bk2
       have g0:(rw0 == 0)=false:=by simpa using hw
       go_wp2_with fail
       refine wp_loop_rounds 2 ?_
       rw [rounds_succ];go_wp2;rw [rounds_succ];go_wp2;go_roundw
       case rel=>exact ⟨i+1,F4,Fb,bk,by go_num,hlt,by rw [hst.out];exact HS,by rw [hst.out];exact bk2⟩
       case measure=>simp [intOf];omega
     ·rw [if_pos h1] at bk2
      replace bk2:=Hd bk2
      have g1:(rk == 1)=false:=by simpa using h1
      have RC:Calls prog 39 #[.pointer (some ⟨pb,0,none⟩),.agg #[.int .i64 rk,.int .i64 rc,.int .i64 ri,.int .i64 rn,.int .i64 rw0]] _ _:=rec_any HS.out.bat sh.out ⟨rk,rc,ri,rn,rw0⟩
      replace RC:=Hd RC;go_wp2_with fail
      refine wp_loop_rounds 2 ?_
      rw [rounds_succ];go_wp2_with fail;refine RC.out.mono ?_;rintro e w6 ⟨rfl,S⟩;replace HS:=Hd (HS.out.wrote h2.out S);clear S RC d0 d1 d2 d3 d4;go_wp2;rw [rounds_succ];go_wp2;go_roundw
      case rel=>exact ⟨i+1,F4,_,_,by go_num,hlt,by rw [hst.out];exact HS,by rw [hst.out];exact bk2⟩
      case measure=>simp [intOf];omega
   ·have e:i=len:=by omega
    subst e;clear hlt hi1 hE
    have ok:=Hd (kPlay_ok (kNew_ok n) E i)
    obtain ⟨k,hk⟩:∃ k,k=kPlay (kNew n) E i:=⟨_,rfl⟩
    rw [← hk] at HS HBk ok
    have hcp:Hid (k.cpus=n):=Hd ok.out.2
    replace hk:=Hd hk;replace ok:=Hd ok.out.1;have P:=Hd HS.out.kat.k_works;go_wp2_with fail;refine P.out.mono ?_;rintro e w2 ⟨rfl,S⟩;clear P;replace HS:=Hd (HS.out.below S);clear S
    have P:=Hd (HS.out.kat.klload (-1))
    go_wp2_with fail;refine P.out.mono ?_;rintro e w3 ⟨rfl,S⟩;clear P;replace HS:=Hd (HS.out.below S);clear S
    have z0:worksLoad k.wk (-1)=wkS k 0:=by unfold wkS sumTo;omega
    rw [z0];clear z0;go_wp2
    go_loopw [16,13,14,15] (fun cv av bv dv wr=>∃ j:Nat,cv=.int .i64 j∧j≤n∧av=.int .i64 (tmS k j)∧bv=.int .i64 (wkS k j)∧dv=.int .i64 (clS k j)∧Hid (OnceSt W wr p f F' Fb pb k bk)) (fun cv _ _ _ _=>n - (intOf cv).toNat)
    case atStart=>exact ⟨0,rfl,by omega,rfl,rfl,rfl,HS⟩
    case round =>
     clear HS;obtain ⟨j,rfl,hj,rfl,rfl,rfl,HS⟩:=hrel
     by_cases hjn:j < n
     ·have i1:=tmS_in ok.out (j:=j) (by rw [hcp.out];omega)
      have i2:=tmS_in ok.out (j:=j+1) (by rw [hcp.out];omega)
      have i3:=wkS_in ok.out (j:=j) (by rw [hcp.out];omega)
      have i4:=wkS_in ok.out (j:=j+1) (by rw [hcp.out];omega)
      have i5:=clS_in ok.out (j:=j) (by rw [hcp.out];omega)
      have i6:=clS_in ok.out (j:=j+1) (by rw [hcp.out];omega)
      have s1:tmS k (j+1)=tmS k j+timersLoad k.tm j:=rfl
      have s2:wkS k (j+1)=wkS k j+worksLoad k.wk j:=(Int.add_assoc _ _ _).symm
      have s3:clS k (j+1)=clS k j+boxLoad k.cl j:=rfl
      have P1:=fun (w:World) (h:OnceSt W w p f F' Fb pb k bk)=>h.kat.ktload j
      have P2:=fun (w:World) (h:OnceSt W w p f F' Fb pb k bk)=>h.kat.klload j
      have P3:=fun (w:World) (h:OnceSt W w p f F' Fb pb k bk)=>h.kat.kbload j
      rw [s1] at i2;rw [s2] at i4;rw [s3] at i6;replace s1:=Hd s1;replace s2:=Hd s2;replace s3:=Hd s3;generalize tmS k j=m1 at *;generalize wkS k j=m2 at *;generalize clS k j=m3 at *;generalize timersLoad k.tm j=l1 at *;generalize worksLoad k.wk j=l2 at *;generalize boxLoad k.cl j=l3 at *;have P:=Hd HS.out.kat.k_timers;go_wp2_with fail;refine P.out.mono ?_;rintro e w2 ⟨rfl,S⟩;clear P;replace HS:=Hd (HS.out.below S);clear S;have P:=Hd (P1 _ HS.out);go_wp2_with fail;refine P.out.mono ?_;rintro e w3 ⟨rfl,S⟩;clear P P1;replace HS:=Hd (HS.out.below S);clear S;have P:=Hd HS.out.kat.k_works;go_wp2_with fail;refine P.out.mono ?_;rintro e w2 ⟨rfl,S⟩;clear P;replace HS:=Hd (HS.out.below S);clear S;have P:=Hd (P2 _ HS.out);go_wp2_with fail;refine P.out.mono ?_;rintro e w3 ⟨rfl,S⟩;clear P P2;replace HS:=Hd (HS.out.below S);clear S;have P:=Hd HS.out.kat.k_calls;go_wp2_with fail;refine P.out.mono ?_;rintro e w2 ⟨rfl,S⟩;clear P;replace HS:=Hd (HS.out.below S);clear S;have P:=Hd (P3 _ HS.out);go_wp2_with fail;refine P.out.mono ?_;rintro e w3 ⟨rfl,S⟩;clear P P3;replace HS:=Hd (HS.out.below S);clear S;go_wp2;go_roundw
      case rel=>exact ⟨j+1,by go_num,hjn,by rw [s1.out],by rw [s2.out],by rw [s3.out],HS⟩
      case measure=>simp [intOf];omega
     ·have e:j=n:=by omega
      subst e
      have e1:=HBk.out.tmS ok.out
      have e2:=HBk.out.wkS ok.out
      have e3:=HBk.out.clS ok.out
      rw [hcp.out] at e1 e2 e3;rw [e1,e2,e3];have hsh:=Hd (HBk.out.short ok.out);have hok:=Hd HBk.out.ok;clear e1 e2 e3 hj hjn;go_wp2
      go_loopw [17,18,19] (fun cv _ _ wr=>∃ x:Nat,cv=.int .i64 x∧x≤bk.timers.length∧Hid (OnceSt W wr p f F' Fb pb k bk)) (fun cv _ _ _=>bk.timers.length - (intOf cv).toNat)
      case atStart=>exact ⟨0,rfl,by omega,HS⟩
      case round =>
       clear HS;obtain ⟨x,rfl,hx,HS⟩:=hrel;obtain ⟨a1,q1,a2,q2,a3,q3,hB,g1,g2,g3⟩:=HS.out.head;rw [hok.out] at hB;have e2:=hB.cell 2;have e3:=hB.cell 3
       try dsimp only at e2 e3
       replace hB:=Hd hB
       have hlen:Hid (bk.timers.length≤1000000):=Hd hsh.out.2.2
       obtain ⟨N,hN⟩:∃ N,N=bk.timers.length:=⟨_,rfl⟩
       rw [← hN] at hx e2
       have hN2:N≤1000000:=by rw [hN];exact hlen.out
       replace hN:=Hd hN
       by_cases hlt:x < N
       ·obtain ⟨g,rfl,hc⟩:=g3 x (by rw [← hN.out];exact hlt)
        obtain ⟨y,hy⟩:∃ y,y=bk.timers.getD x 0:=⟨_,rfl⟩
        have hmem:y∈bk.timers:=by
         have hl:x < bk.timers.length:=by rw [← hN.out];exact hlt
         rw [hy,List.getD_eq_getElem?_getD,List.getElem?_eq_getElem hl]
         exact List.getElem_mem hl
        rw [← hy] at hc;clear hy g1 g2 g3
        have A1:=fun z:Aft wr=>Hd (HS.out.below z.h).kat.k_timers
        have A2:=fun z:Aft wr=>(HS.out.below z.h).kat.ktwhere y
        rw [HBk.out.timer hmem] at A2
        replace A2:=fun z=>Hd (A2 z)
        have e2:=fun z:Aft wr=>keepcell z.h e2
        have e3:=fun z:Aft wr=>keepcell z.h e3
        have hc:=fun z:Aft wr=>keepcell z.h hc
        clear hmem;go_wp2_with fail
        refine wp_region_aft ?_ ?_ ?_;(kernel_rfl);(kernel_rfl);(repeat (go_big_quiet_step (first | (go_at_call 23;exact quiet_aft (A1 _).out) | (go_at_call 42;exact quiet_aft0 (A2 _).out))));refine wpQuiet_nil ?_;rintro _ ⟨nx,rfl⟩
        have HB2:=Hd (hB.out.ch (Ch.off nx.h) (fun h=>h))
        have fr:=HB2.out.frozen 3;have e4:=HB2.out.cell 3
        try dsimp only at e4
        have HM:=Hd ((HS.out.below nx.h).mark h2.out hok.out)
        clear A1 A2 e2 e3 hc;go_wp2;go_roundw
        case rel=>exact ⟨x+1,by go_num,by rw [← hN.out];exact hlt,HM⟩
        case measure=>simp [intOf];have:=hN.out;omega
       ·go_wp2
        clear hx hlt hN hN2 hlen e2 e3 hB g1 g2 g3
        go_loopw [20] (fun cv  wr=>∃ x:Nat,cv=.int .i64 x∧x≤bk.works.length∧Hid (OnceSt W wr p f F' Fb pb k bk)) (fun cv  _=>bk.works.length - (intOf cv).toNat)
        case atStart=>exact ⟨0,rfl,by omega,HS⟩
        case round =>
         clear HS;obtain ⟨x,rfl,hx,HS⟩:=hrel;obtain ⟨a1,q1,a2,q2,a3,q3,hB,g1,g2,g3⟩:=HS.out.head;rw [hok.out] at hB;have e2:=hB.cell 0;have e3:=hB.cell 3
         try dsimp only at e2 e3
         replace hB:=Hd hB
         have hlen:Hid (bk.works.length≤1000000):=Hd hsh.out.1
         obtain ⟨N,hN⟩:∃ N,N=bk.works.length:=⟨_,rfl⟩
         rw [← hN] at hx e2
         have hN2:N≤1000000:=by rw [hN];exact hlen.out
         replace hN:=Hd hN
         by_cases hlt:x < N
         ·obtain ⟨g,rfl,hc⟩:=g1 x (by rw [← hN.out];exact hlt)
          obtain ⟨y,hy⟩:∃ y,y=bk.works.getD x 0:=⟨_,rfl⟩
          have hmem:y∈bk.works:=by
           have hl:x < bk.works.length:=by rw [← hN.out];exact hlt
           rw [hy,List.getD_eq_getElem?_getD,List.getElem?_eq_getElem hl]
           exact List.getElem_mem hl
          rw [← hy] at hc;clear hy g1 g2 g3
          have A1:=fun z:Aft wr=>Hd (HS.out.below z.h).kat.k_works
          have A2:=fun z:Aft wr=>(HS.out.below z.h).kat.klhas y
          rw [HBk.out.work hmem] at A2
          replace A2:=fun z=>Hd (A2 z)
          have e2:=fun z:Aft wr=>keepcell z.h e2
          have e3:=fun z:Aft wr=>keepcell z.h e3
          have hc:=fun z:Aft wr=>keepcell z.h hc
          clear hmem;go_wp2_with fail
          refine region_tail_aft 19 ?_ ?_ ?_;(kernel_rfl);(kernel_rfl);simp only [List.take_succ_cons,List.take_zero,List.drop_succ_cons,List.drop_zero];(repeat (go_big_quiet_step (first | (go_at_call 25;exact quiet_aft (A1 _).out) | (go_at_call 43;exact quiet_aft0 (A2 _).out))));refine wpQuiet_nil ?_;rintro _ ⟨nx,rfl⟩
          have HB2:=Hd (hB.out.ch (Ch.off nx.h) (fun h=>h))
          have fr:=HB2.out.frozen 3;have e4:=HB2.out.cell 3
          try dsimp only at e4
          have HM:=Hd ((HS.out.below nx.h).mark h2.out hok.out)
          clear A1 A2 e2 e3 hc;go_wp2;go_roundw
          case rel=>exact ⟨x+1,by go_num,by rw [← hN.out];exact hlt,HM⟩
          case measure=>simp [intOf];have:=hN.out;omega
         ·go_wp2
          clear hx hlt hN hN2 hlen e2 e3 hB g1 g2 g3
          go_loopw [21] (fun cv  wr=>∃ x:Nat,cv=.int .i64 x∧x≤bk.calls.length∧Hid (OnceSt W wr p f F' Fb pb k bk)) (fun cv  _=>bk.calls.length - (intOf cv).toNat)
          case atStart=>exact ⟨0,rfl,by omega,HS⟩
          case round =>
           clear HS;obtain ⟨x,rfl,hx,HS⟩:=hrel;obtain ⟨a1,q1,a2,q2,a3,q3,hB,g1,g2,g3⟩:=HS.out.head;rw [hok.out] at hB;have e2:=hB.cell 1;have e3:=hB.cell 3
           try dsimp only at e2 e3
           replace hB:=Hd hB
           have hlen:Hid (bk.calls.length≤1000000):=Hd hsh.out.2.1
           obtain ⟨N,hN⟩:∃ N,N=bk.calls.length:=⟨_,rfl⟩
           rw [← hN] at hx e2
           have hN2:N≤1000000:=by rw [hN];exact hlen.out
           replace hN:=Hd hN
           by_cases hlt:x < N
           ·obtain ⟨g,rfl,hc⟩:=g2 x (by rw [← hN.out];exact hlt)
            obtain ⟨y,hy⟩:∃ y,y=bk.calls.getD x 0:=⟨_,rfl⟩
            have hmem:y∈bk.calls:=by
             have hl:x < bk.calls.length:=by rw [← hN.out];exact hlt
             rw [hy,List.getD_eq_getElem?_getD,List.getElem?_eq_getElem hl]
             exact List.getElem_mem hl
            rw [← hy] at hc;clear hy g1 g2 g3
            have A1:=fun z:Aft wr=>Hd (HS.out.below z.h).kat.k_calls
            have A2:=fun z:Aft wr=>(HS.out.below z.h).kat.kbhas y
            rw [HBk.out.call ok.out hmem] at A2
            replace A2:=fun z=>Hd (A2 z)
            have e2:=fun z:Aft wr=>keepcell z.h e2
            have e3:=fun z:Aft wr=>keepcell z.h e3
            have hc:=fun z:Aft wr=>keepcell z.h hc
            clear hmem;go_wp2_with fail
            refine region_tail_aft 19 ?_ ?_ ?_;(kernel_rfl);(kernel_rfl);simp only [List.take_succ_cons,List.take_zero,List.drop_succ_cons,List.drop_zero];(repeat (go_big_quiet_step (first | (go_at_call 21;exact quiet_aft (A1 _).out) | (go_at_call 44;exact quiet_aftD (A2 _).out))));refine wpQuiet_nil ?_;rintro _ ⟨nx,rfl⟩
            have HB2:=Hd (hB.out.ch (Ch.off nx.h) (fun h=>h))
            have fr:=HB2.out.frozen 3;have e4:=HB2.out.cell 3
            try dsimp only at e4
            have HM:=Hd ((HS.out.below nx.h).mark h2.out hok.out)
            clear A1 A2 e2 e3 hc;go_wp2;go_roundw
            case rel=>exact ⟨x+1,by go_num,by rw [← hN.out];exact hlt,HM⟩
            case measure=>simp [intOf];have:=hN.out;omega
           ·have hlt2:¬ x < bk.calls.length:=by rw [← hN.out];exact hlt
            clear hx hlt hN hN2 hlen e2 e3 g1 g2 g3;have d0:=hB.out.cell 0;have d1:=hB.out.cell 1;have d2:=hB.out.cell 2;have d3:=hB.out.cell 3
            try dsimp only at d0 d1 d2 d3
            clear hB;have A:=Hd HS.out.kat.kalive;go_wp2_with fail;refine A.out.mono ?_;rintro e w9 ⟨rfl,hb⟩;clear A;go_wp2;go_returns
            exact ⟨rfl,HS.out.bel.trans (hb.mono HS.out.bel.size)⟩
end
section
open Go.Proofs.YtiocbpabbjgkhaaGreatDoor.Open
theorem once_row (W:World) (hT:Tab W) (a0:Int) (w0:(Lit.int .i64 a0).wf=true) (a:Option Addr) (len cap:Nat) (V:Nat→Nat→Value) (row:StructRow W a len evKs V) (hle:len≤cap) (hb:len*40≤140737488351232):Calls prog 5 #[.int .i64 a0,.slice a len cap] W fun e W'=>e=.returned (.bool true)∧Below W.heap.size W W' :=
 once_any W hT a0 a len cap (evs_in row)
end
end Go.Proofs.YtiocbpabbjgkhaaGreatDoor
