/- Part 27 of the proof: contracts and plain laws, each under the conditions that it names. -/
import Derived.Test.YtiocbpabbjgkhaaGreatDoorLim26
import Derived.Deep.CutRange
set_option maxRecDepth 100000
set_option maxHeartbeats 20000000
set_option linter.unusedVariables false
set_option linter.unusedSimpArgs false
namespace Go.Proofs.YtiocbpabbjgkhaaGreatDoor
open Go.RowKit Go.Proofs.Tryz
variable {w w' : World} {F : Nat → Prop} {p : Nat} {f : KF} {k : K}
section
open Go.Proofs.YtiocbpabbjgkhaaGreatDoor.NumD
theorem limits_any (W:World) (hT:Tab W) (cpus:Int) (a:Option Addr) (len cap:Nat) {E:Nat→Ev} (hE:EvsIn W a len E):Calls prog 3 #[.int .i64 cpus,.slice a len cap] W fun e w'=>e=.returned (.bool true)∧Below W.heap.size W w':=by
 have h2:=hT.two
 by_cases hc:cpus < 1∨64 < cpus
 ·have N:=Hd (new_no W cpus hc)
  have A:=Hd (alive_any W hT h2);clear hE hT h2 hc
  go_enter func3,ntmps3
  go_wp2_with fail;refine N.out.mono ?_;rintro e w1 ⟨rfl,rfl⟩;go_wp2_with fail;refine A.out.mono ?_;rintro e w1 ⟨rfl,hb⟩;go_wp2;go_returns
  exact ⟨rfl,hb⟩
 obtain ⟨n,rfl⟩:∃ n:Nat,cpus=n:=⟨cpus.toNat,by omega⟩
 have hn1:1≤n:=by omega
 have N:=Hd (new_any W n hn1 (by omega) hT h2)
 have FW:=fun w=>few_any w n a len cap
 obtain ⟨fw,hfw⟩:∃ b,b=(decide (1≤(n:Int)) && decide ((n:Int)≤9) && decide (len≤300)):=⟨_,rfl⟩
 simp only [← hfw] at FW
 clear hc hT h2;replace hE:=Hd hE
 replace FW:=fun w=>Hd (FW w)
 cases fw with
 | false =>
  clear hfw hE
  go_enter func3,ntmps3
  go_wp2_with fail;refine N.out.mono ?_;rintro e w1 ⟨⟨p,f,rfl,HK⟩,hb0⟩;replace HK:=Hd HK;replace hb0:=Hd hb0;clear N
  have B:=FW w1
  go_wp2_with fail;refine B.out.mono ?_;rintro e w1 ⟨rfl,rfl⟩;have A:=Hd HK.out.kalive;go_wp2_with fail;refine A.out.mono ?_;rintro e w2 ⟨rfl,hb⟩;go_wp2;go_returns
  exact ⟨rfl,hb0.out.trans (hb.mono hb0.out.size)⟩
 | true =>
  obtain ⟨h9,hlen⟩:=few_cases hfw
  clear hfw
  go_enter func3,ntmps3
  go_wp2_with fail;refine N.out.mono ?_;rintro e w1 ⟨⟨p,f,rfl,HK⟩,hb0⟩;replace HK:=Hd HK;replace hb0:=Hd hb0;clear N
  have B:=FW w1
  go_wp2_with fail;refine B.out.mono ?_;rintro e w1 ⟨rfl,rfl⟩;clear FW B
  have HL:=Hd (Lk.refl w1 (Plus W w1 (fun _=>False)))
  have T:=Hd (fun w=>table_any w);go_wp2_with fail;refine (T.out w1).mono ?_;rintro e w2 ⟨rfl,rfl⟩;clear T
  obtain ⟨wb,hwb⟩:∃ wb,wb=w1.heap.size:=⟨_,rfl⟩
  have HX:=Hd (Bx.new HK.out tableCells 45);rw [← hwb] at HX ⊢;replace hwb:=Hd hwb
  replace HK:=Hd (HK.out.alloc (.cells tableCells 45))
  replace HL:=Hd (HL.out.alloc (.cells tableCells 45))
  go_wp2
  go_loopw [11,7,8,9,12,13,14,15,16,17,18,19,20] (fun iv lv ov uv _ _ _ _ _ _ _ _ _ wr=>∃ (i:Nat) (F':Nat→Prop) (lo hi:Int),iv=.int .i64 i∧i≤len∧lv=.int .i64 (kPlay (kNew n) E i).limit∧ov=.int .i64 lo∧uv=.int .i64 hi∧Hid ((kPlay (kNew n) E i).gv=List.replicate n (lo,hi))∧Hid (KAt wr F' p f (kPlay (kNew n) E i))∧Hid (Lk w1 (Plus W w1 (fun _=>False)) wr F')∧Hid (Bx wr F' wb tableCells 45)) (fun iv _ _ _ _ _ _ _ _ _ _ _ _ _=>len - (intOf iv).toNat)
  case atStart=>exact ⟨0,_,100,1000,rfl,by omega,rfl,rfl,rfl,Hd rfl,HK,HL,HX⟩
  case round =>
   clear HK HL HX;obtain ⟨i,F',lo,hi,rfl,hi1,rfl,rfl,rfl,HG,HK,HL,HX⟩:=hrel
   by_cases hlt:i < len
   ·obtain ⟨b,off,rfl⟩:=hE.out.base (by omega)
    obtain ⟨c0,c1,c2,c3,c4⟩:=(hE.out.below (top_below hb0.out HL.out)).at hlt
    obtain ⟨hm,-,-,-,hn⟩:=hE.out.ok i hlt
    have hst:Hid (kPlay (kNew n) E (i+1)=(kDo (kPlay (kNew n) E i) (E i)).1):=Hd rfl
    have ok:=Hd (kPlay_ok (kNew_ok n) E i)
    obtain ⟨k,hk⟩:∃ k,k=kPlay (kNew n) E i:=⟨_,rfl⟩
    rw [← hk] at HK HG ok hst ⊢;replace hk:=Hd hk
    obtain ⟨ev,hev⟩:∃ ev,ev=E i:=⟨_,rfl⟩
    rw [← hev] at c0 c1 c2 c3 c4 hm hn hst;replace hev:=Hd hev
    have law:=kDo_lim ok.out.1 (by rw [ok.out.2];exact hn1) (by rw [ok.out.2];exact HG.out) ev
    have D1:=fun (w':World) (F':Nat→Prop) (h:KAt w' F' p f k)=>h.kdo' ok.out.1 ev hm hn
    obtain ⟨kind,ecpu,id,m,nn⟩:=ev;unfold evC at D1
    try dsimp only at c0 c1 c2 c3 c4 D1
    obtain ⟨g,hg⟩:∃ g,g=coreGet k.co ecpu:=⟨_,rfl⟩
    have G1:=fun (w':World) (h:KAt w' F' p f k)=>Hd h.k_cores
    have G2:=fun (w':World) (h:KAt w' F' p f k)=>h.kcget ecpu
    rw [← hg] at G2
    have lets:=law.lets ecpu
    rw [← hg] at lets
    obtain ⟨⟨po,io,wo,so,st,bo⟩,why⟩:=g
    dsimp only [coreL] at G2
    replace hg:=Hd hg;replace law:=Hd law;replace lets:=Hd lets;have cc:=c1;clear hm hn
    go_upto_region 11 with fail
    go_cut [12,13] from 36 to 185 (fun s s' wx=>∃ bb,s=.pointer (some ⟨bb,0,none⟩)∧s'=.int .i64 why∧Hid (KAt wx F' p f k)∧Hid (Lk w1 (Plus W w1 (fun _=>False)) wx F')∧Hid (Bx wx F' wb tableCells 45)∧Hid (Bx wx F' bb #[.bool po,.bool io,.int .i64 wo,.int .i64 so,.int .i64 st,.int .i64 bo] 32))
    case first=>as_aux_lemma =>
     have hold:∀ w',Below wr.heap.size wr w'→w'.cell? ⟨b,off+i*5+1,none⟩=some (.int .i64 ecpu)∧Below wr.heap.size wr w':=fun w' hb=>⟨keepcell hb cc,hb⟩
     refine wp_region_noPanic ?_
     refine wp_region_held_drew (S:=fun w'=>w'.cell? ⟨b,off+i*5+1,none⟩=some (.int .i64 ecpu)∧Below wr.heap.size wr w') (by kernel_rfl) (hold _ (Below.refl _ _).drew) (fun hHeld=>?_)
     replace hold:=Hd hold
     refine wpAnyH_take (i:=0) (oi:=?_) (v:=?_) ?_ (by kernel_rfl) (by kernel_rfl) (by kernel_rfl) ?_ (Or.inl ⟨?_,?_⟩) hHeld ?_
     rotate_left 2
     ·simp only [sD,sE,sF];rfl
     ·exact fun _ _ _ h=>h
     ·rfl
     ·intro w' hSw;(try dsimp only at hSw);go_simp;(try with_reducible rfl)
     (try simp only [Act.put,sA,sB,sC])
     refine wpAnyH_take (i:=2) (oi:=?_) (v:=?_) ?_ (by kernel_rfl) (by kernel_rfl) (by kernel_rfl) ?_ (Or.inl ⟨?_,?_⟩) hHeld ?_
     rotate_left 2
     ·simp only [sD,sE,sF];rfl
     ·exact fun _ _ _ h=>h
     ·rfl
     ·intro w' hSw;(try dsimp only at hSw);go_simp;(try with_reducible rfl)
     (try simp only [Act.put,sA,sB,sC])
     refine wpAnyH_take (i:=3) (oi:=?_) (v:=?_) ?_ (by kernel_rfl) (by kernel_rfl) (by kernel_rfl) ?_ (Or.inl ⟨?_,?_⟩) hHeld ?_
     rotate_left 2
     ·simp only [sD,sE,sF];rfl
     ·exact fun _ _ _ h=>h
     ·rfl
     ·intro w' hSw;(try dsimp only at hSw);go_simp;(try with_reducible rfl)
     (try simp only [Act.put,sA,sB,sC])
     refine wpAnyH_take (i:=4) (oi:=?_) (v:=?_) ?_ (by kernel_rfl) (by kernel_rfl) (by kernel_rfl) ?_ (Or.inl ⟨?_,?_⟩) hHeld ?_
     rotate_left 2
     ·simp only [sD,sE,sF];rfl
     ·exact fun _ _ _ h=>h
     ·rfl
     ·intro w' hSw;(try dsimp only at hSw);go_simp;(try with_reducible rfl)
     (try simp only [Act.put,sA,sB,sC])
     refine wpAnyH_take (i:=5) (oi:=?_) (v:=?_) ?_ (by kernel_rfl) (by kernel_rfl) (by kernel_rfl) ?_ (Or.inl ⟨?_,?_⟩) hHeld ?_
     rotate_left 2
     ·simp only [sD,sE,sF];rfl
     ·exact fun _ _ _ h=>h
     ·rfl
     ·intro w' hSw;(try dsimp only at hSw);go_simp;(try with_reducible rfl)
     (try simp only [Act.put,sA,sB,sC])
     refine wpAnyH_take (i:=6) (oi:=?_) (v:=?_) ?_ (by kernel_rfl) (by kernel_rfl) (by kernel_rfl) ?_ (Or.inl ⟨?_,?_⟩) hHeld ?_
     rotate_left 2
     ·simp only [sD,sE,sF];rfl
     ·exact fun _ _ _ h=>h
     ·rfl
     ·intro w' hSw;(try dsimp only at hSw);go_simp;(try with_reducible rfl)
     (try simp only [Act.put,sA,sB,sC])
     refine wpAnyH_ready (rs:=[1,11]) (by kernel_rfl) (by simp) ?_
     refine AllReadyH.cons (o:=?_) ?_ (fun K hK=>?_) (AllReadyH.cons (o:=?_) ?_ (fun K hK=>?_) AllReadyH.nil)
     rotate_left 1
     ·simp only [List.getElem?_toArray,List.getElem?_cons_zero,List.getElem?_cons_succ];rfl
     rotate_left 2
     ·simp only [List.getElem?_toArray,List.getElem?_cons_zero,List.getElem?_cons_succ];rfl
     ·go_simp
      have hz:Below wr.heap.size wr (wr.alloc (.cells #[.bool false,.bool false,.int .i64 0,.int .i64 0,.int .i64 0,.int .i64 0] 32)).drew:=((Below.refl _ _).alloc (Nat.le_refl _) _).drew
      replace hz:=Hd hz
      have hHeld:=hold.out _ hz.out
      refine hK.out _ _ hHeld (fun hHeld=>?_)
      clear hK K
      (try simp only [Act.put,List.setIfInBounds_toArray,List.set_cons_zero,List.set_cons_succ])
      have Z0:Bx (wr.alloc (.cells #[.bool false,.bool false,.int .i64 0,.int .i64 0,.int .i64 0,.int .i64 0] 32)).drew F' wr.heap.size #[.bool false,.bool false,.int .i64 0,.int .i64 0,.int .i64 0,.int .i64 0] 32:=(Bx.new HK.out #[.bool false,.bool false,.int .i64 0,.int .i64 0,.int .i64 0,.int .i64 0] 32).drewN 1
      refine wpAnyH_ready (rs:=[1]) (by kernel_rfl) (by simp) ?_
      refine AllReadyH.cons (o:=?_) ?_ (fun K hK=>?_) AllReadyH.nil
      rotate_left 1
      ·simp only [sD,sE,sF];rfl
      go_simp
      (refine (G1 _ (HK.out.below hz.out)).out.mono ?_;rintro e w2 ⟨rfl,S2⟩;have hb2:Below wr.heap.size wr w2:=hz.out.trans (S2.mono hz.out.size);have hHeld:=hold.out _ hb2;have Z2:=Z0.lk (Lk.of_below S2))
      refine hK.out _ _ hHeld (fun hHeld=>?_)
      clear hK K
      (try simp only [Act.put,sA,sB,sC])
      refine wpAnyH_ready (rs:=[7]) (by kernel_rfl) (by simp) ?_
      refine AllReadyH.cons (o:=?_) ?_ (fun K hK=>?_) AllReadyH.nil
      rotate_left 1
      ·simp only [sD,sE,sF];rfl
      go_simp
      (refine (G2 _ (HK.out.below hb2)).mono ?_;rintro e w3 ⟨rfl,S3⟩;have hb3:=hb2.trans (S3.mono hb2.size);have hHeld:=hold.out _ hb3;have Z3:=Hd (Z2.lk (Lk.of_below S3)))
      refine hK.out _ _ hHeld (fun hHeld=>?_)
      clear hK K
      (try simp only [Act.put,sA,sB,sC])
      refine wpAnyH_take (i:=8) (oi:=?_) (v:=?_) ?_ (by kernel_rfl) (by kernel_rfl) (by kernel_rfl) ?_ (Or.inl ⟨?_,?_⟩) hHeld ?_
      rotate_left 2
      ·simp only [sD,sE,sF];rfl
      ·exact fun _ _ _ h=>h
      ·rfl
      ·intro w' hSw;(try dsimp only at hSw);go_simp;(try with_reducible rfl)
      (try simp only [Act.put,sA,sB,sC])
      refine wpAnyH_take (i:=9) (oi:=?_) (v:=?_) ?_ (by kernel_rfl) (by kernel_rfl) (by kernel_rfl) ?_ (Or.inl ⟨?_,?_⟩) hHeld ?_
      rotate_left 2
      ·simp only [sD,sE,sF];rfl
      ·exact fun _ _ _ h=>h
      ·rfl
      ·intro w' hSw;(try dsimp only at hSw);go_simp;(try with_reducible rfl)
      (try simp only [Act.put,sA,sB,sC])
      refine wpAnyH_take (i:=10) (oi:=?_) (v:=?_) ?_ (by kernel_rfl) (by kernel_rfl) (by kernel_rfl) ?_ (Or.inl ⟨?_,?_⟩) hHeld ?_
      rotate_left 2
      ·simp only [sD,sE,sF];rfl
      ·exact fun _ _ _ h=>h
      ·rfl
      ·intro w' hSw;(try dsimp only at hSw);go_simp;(try with_reducible rfl)
      (try simp only [Act.put,sA,sB,sC])
      obtain ⟨u0x,u1x,u2x,u3x,u4x,u5x,⟨y0,y1,y2,y3,y4,y5⟩,⟨f0,f1,f2,f3,f4,f5⟩,hB,hb6⟩:=six Z3.out.blk rfl (n:=wr.heap.size) (Nat.le_refl _) hb3 (.bool po) (.bool io) (.int .i64 wo) (.int .i64 so) (.int .i64 st) (.int .i64 bo)
      have hHeld6:=hold.out _ hb6
      refine wpAnyH_ready (rs:=[12]) (by kernel_rfl) (by simp) ?_
      refine AllReadyH.cons (o:=?_) ?_ (fun K hK=>?_) AllReadyH.nil
      rotate_left 1
      ·simp only [sD,sE,sF];rfl
      go_simp
      refine hK.out _ _ hHeld6 (fun hHeld=>?_)
      clear hK K
      (try simp only [Act.put,sA,sB,sC])
      refine wpAnyH_ready (rs:=[13]) (by kernel_rfl) (by simp) ?_
      refine AllReadyH.cons (o:=?_) ?_ (fun K hK=>?_) AllReadyH.nil
      rotate_left 1
      ·simp only [sD,sE,sF];rfl
      go_simp
      refine hK.out _ _ hHeld6 (fun hHeld=>?_)
      clear hK K
      (try simp only [Act.put,sA,sB,sC])
      refine wpAnyH_done (by kernel_rfl) (NoPanic.normal ?_) _
      go_wp2_with fail
      go_meet
      exact ⟨_,rfl,rfl,Hd (HK.out.below hb6),Hd (HL.out.below hb6),Hd (HX.out.lk (Lk.of_below hb6)),Hd ⟨hB,Z3.out.off⟩⟩
     ·go_simp
      refine (G1 _ (HK.out.drewN 1)).out.mono ?_
      rintro e w2 ⟨rfl,S2⟩
      have hb2:Below wr.heap.size wr w2:=(belowN wr 1).trans (S2.mono (by simp))
      have hHeld:=hold.out _ hb2
      refine hK.out _ _ hHeld (fun hHeld=>?_)
      clear hK K
      (try simp only [Act.put,List.setIfInBounds_toArray,List.set_cons_zero,List.set_cons_succ])
      refine wpAnyH_ready (rs:=[7,11]) (by kernel_rfl) (by simp) ?_
      refine AllReadyH.cons (o:=?_) ?_ (fun K hK=>?_) (AllReadyH.cons (o:=?_) ?_ (fun K hK=>?_) AllReadyH.nil)
      rotate_left 1
      ·simp only [List.getElem?_toArray,List.getElem?_cons_zero,List.getElem?_cons_succ];rfl
      rotate_left 2
      ·simp only [List.getElem?_toArray,List.getElem?_cons_zero,List.getElem?_cons_succ];rfl
      ·go_simp
       have hz:=hb2.alloc hb2.size (.cells #[.bool false,.bool false,.int .i64 0,.int .i64 0,.int .i64 0,.int .i64 0] 32)
       have hHeld:=hold.out _ hz
       refine hK.out _ _ hHeld (fun hHeld=>?_)
       clear hK K
       (try simp only [Act.put,List.setIfInBounds_toArray,List.set_cons_zero,List.set_cons_succ])
       have Z0:=Bx.new (HK.out.below hb2) #[.bool false,.bool false,.int .i64 0,.int .i64 0,.int .i64 0,.int .i64 0] 32
       have hn2:=hb2.size
       refine wpAnyH_ready (rs:=[7]) (by kernel_rfl) (by simp) ?_
       refine AllReadyH.cons (o:=?_) ?_ (fun K hK=>?_) AllReadyH.nil
       rotate_left 1
       ·simp only [sD,sE,sF];rfl
       go_simp
       (refine (G2 _ (HK.out.below hz)).mono ?_;rintro e w3 ⟨rfl,S3⟩;have hb3:=hz.trans (S3.mono hz.size);have hHeld:=hold.out _ hb3;have Z3:=Hd (Z0.lk (Lk.of_below S3)))
       refine hK.out _ _ hHeld (fun hHeld=>?_)
       clear hK K
       (try simp only [Act.put,sA,sB,sC])
       refine wpAnyH_take (i:=8) (oi:=?_) (v:=?_) ?_ (by kernel_rfl) (by kernel_rfl) (by kernel_rfl) ?_ (Or.inl ⟨?_,?_⟩) hHeld ?_
       rotate_left 2
       ·simp only [sD,sE,sF];rfl
       ·exact fun _ _ _ h=>h
       ·rfl
       ·intro w' hSw;(try dsimp only at hSw);go_simp;(try with_reducible rfl)
       (try simp only [Act.put,sA,sB,sC])
       refine wpAnyH_take (i:=9) (oi:=?_) (v:=?_) ?_ (by kernel_rfl) (by kernel_rfl) (by kernel_rfl) ?_ (Or.inl ⟨?_,?_⟩) hHeld ?_
       rotate_left 2
       ·simp only [sD,sE,sF];rfl
       ·exact fun _ _ _ h=>h
       ·rfl
       ·intro w' hSw;(try dsimp only at hSw);go_simp;(try with_reducible rfl)
       (try simp only [Act.put,sA,sB,sC])
       refine wpAnyH_take (i:=10) (oi:=?_) (v:=?_) ?_ (by kernel_rfl) (by kernel_rfl) (by kernel_rfl) ?_ (Or.inl ⟨?_,?_⟩) hHeld ?_
       rotate_left 2
       ·simp only [sD,sE,sF];rfl
       ·exact fun _ _ _ h=>h
       ·rfl
       ·intro w' hSw;(try dsimp only at hSw);go_simp;(try with_reducible rfl)
       (try simp only [Act.put,sA,sB,sC])
       obtain ⟨u0x,u1x,u2x,u3x,u4x,u5x,⟨y0,y1,y2,y3,y4,y5⟩,⟨f0,f1,f2,f3,f4,f5⟩,hB,hb6⟩:=six Z3.out.blk rfl (n:=wr.heap.size) hn2 hb3 (.bool po) (.bool io) (.int .i64 wo) (.int .i64 so) (.int .i64 st) (.int .i64 bo)
       have hHeld6:=hold.out _ hb6
       refine wpAnyH_ready (rs:=[12]) (by kernel_rfl) (by simp) ?_
       refine AllReadyH.cons (o:=?_) ?_ (fun K hK=>?_) AllReadyH.nil
       rotate_left 1
       ·simp only [sD,sE,sF];rfl
       go_simp
       refine hK.out _ _ hHeld6 (fun hHeld=>?_)
       clear hK K
       (try simp only [Act.put,sA,sB,sC])
       refine wpAnyH_ready (rs:=[13]) (by kernel_rfl) (by simp) ?_
       refine AllReadyH.cons (o:=?_) ?_ (fun K hK=>?_) AllReadyH.nil
       rotate_left 1
       ·simp only [sD,sE,sF];rfl
       go_simp
       refine hK.out _ _ hHeld6 (fun hHeld=>?_)
       clear hK K
       (try simp only [Act.put,sA,sB,sC])
       refine wpAnyH_done (by kernel_rfl) (NoPanic.normal ?_) _
       go_wp2_with fail
       go_meet
       exact ⟨_,rfl,rfl,Hd (HK.out.below hb6),Hd (HL.out.below hb6),Hd (HX.out.lk (Lk.of_below hb6)),Hd ⟨hB,Z3.out.off⟩⟩
      ·go_simp
       refine (G2 _ (HK.out.below hb2)).mono ?_
       rintro e w3 ⟨rfl,S3⟩
       have hb3:=hb2.trans (S3.mono hb2.size)
       have hHeld:=hold.out _ hb3
       refine hK.out _ _ hHeld (fun hHeld=>?_)
       clear hK K
       (try simp only [Act.put,List.setIfInBounds_toArray,List.set_cons_zero,List.set_cons_succ])
       refine wpAnyH_take (i:=8) (oi:=?_) (v:=?_) ?_ (by kernel_rfl) (by kernel_rfl) (by kernel_rfl) ?_ (Or.inl ⟨?_,?_⟩) hHeld ?_
       rotate_left 2
       ·simp only [sD,sE,sF];rfl
       ·exact fun _ _ _ h=>h
       ·rfl
       ·intro w' hSw;(try dsimp only at hSw);go_simp;(try with_reducible rfl)
       (try simp only [Act.put,sA,sB,sC])
       refine wpAnyH_take (i:=9) (oi:=?_) (v:=?_) ?_ (by kernel_rfl) (by kernel_rfl) (by kernel_rfl) ?_ (Or.inl ⟨?_,?_⟩) hHeld ?_
       rotate_left 2
       ·simp only [sD,sE,sF];rfl
       ·exact fun _ _ _ h=>h
       ·rfl
       ·intro w' hSw;(try dsimp only at hSw);go_simp;(try with_reducible rfl)
       (try simp only [Act.put,sA,sB,sC])
       refine wpAnyH_take (i:=10) (oi:=?_) (v:=?_) ?_ (by kernel_rfl) (by kernel_rfl) (by kernel_rfl) ?_ (Or.inl ⟨?_,?_⟩) hHeld ?_
       rotate_left 2
       ·simp only [sD,sE,sF];rfl
       ·exact fun _ _ _ h=>h
       ·rfl
       ·intro w' hSw;(try dsimp only at hSw);go_simp;(try with_reducible rfl)
       (try simp only [Act.put,sA,sB,sC])
       have hHeldz:=hold.out _ (hb3.alloc hb3.size (.cells #[.bool false,.bool false,.int .i64 0,.int .i64 0,.int .i64 0,.int .i64 0] 32))
       have hbx:=hb3.alloc hb3.size (.cells #[.bool po,.bool io,.int .i64 wo,.int .i64 so,.int .i64 st,.int .i64 bo] 32)
       have hHeldx:=hold.out _ hbx
       have Z3:=Bx.new (HK.out.below hb3) #[.bool po,.bool io,.int .i64 wo,.int .i64 so,.int .i64 st,.int .i64 bo] 32
       refine wpAnyH_ready (rs:=[11]) (by kernel_rfl) (by simp) ?_
       refine AllReadyH.cons (o:=?_) ?_ (fun K hK=>?_) AllReadyH.nil
       rotate_left 1
       ·simp only [sD,sE,sF];rfl
       go_simp
       refine hK.out _ _ hHeldz (fun hHeld=>?_)
       clear hK K
       (try simp only [Act.put,sA,sB,sC])
       refine wpAnyH_ready (rs:=[12]) (by kernel_rfl) (by simp) ?_
       refine AllReadyH.cons (o:=?_) ?_ (fun K hK=>?_) AllReadyH.nil
       rotate_left 1
       ·simp only [sD,sE,sF];rfl
       go_simp
       refine hK.out _ _ hHeldx (fun hHeld=>?_)
       clear hK K
       (try simp only [Act.put,sA,sB,sC])
       refine wpAnyH_ready (rs:=[13]) (by kernel_rfl) (by simp) ?_
       refine AllReadyH.cons (o:=?_) ?_ (fun K hK=>?_) AllReadyH.nil
       rotate_left 1
       ·simp only [sD,sE,sF];rfl
       go_simp
       refine hK.out _ _ hHeldx (fun hHeld=>?_)
       clear hK K
       (try simp only [Act.put,sA,sB,sC])
       refine wpAnyH_done (by kernel_rfl) (NoPanic.normal ?_) _
       go_wp2_with fail
       go_meet
       exact ⟨_,rfl,rfl,Hd (HK.out.below hbx),Hd (HL.out.below hbx),Hd (HX.out.lk (Lk.of_below hbx)),Hd Z3⟩
    case rest =>
    obtain ⟨bb,rfl,rfl,HK2,HL2,HX2,HB⟩:=hcut;clear HK HL HX;have HK:=HK2;have HL:=HL2;have HX:=HX2;clear HK2 HL2 HX2 G1 G2 c0 c1 c2 c3 c4 cc hg
    obtain ⟨c0,c1,c2,c3,c4⟩:=(hE.out.below (top_below hb0.out HL.out)).at hlt
    rw [← hev.out] at c0 c1 c2 c3 c4
    try dsimp only at c0 c1 c2 c3 c4
    obtain ⟨r,hr⟩:∃ r,r=kDo k ⟨kind,ecpu,id,m,nn⟩:=⟨_,rfl⟩
    have law2:=law.out;have lets2:=lets.out
    have D2:=D1 _ _ HK.out
    have okr:KOk r.1∧r.1.cpus=n:=by rw [hr];exact ⟨(kDo_ok ok.out.1 _).1,(kDo_ok ok.out.1 _).2.trans ok.out.2⟩
    rw [← hr] at law2 lets2 D2 hst
    have hcp:k.cpus=n:=ok.out.2
    clear hr law lets D1 ok;obtain ⟨k1,rs⟩:=r
    try dsimp only at law2 lets2 D2 hst okr
    obtain ⟨hlim,hgv,-⟩:=law2
    try dsimp only at hlim hgv
    rw [hcp] at hgv
    obtain ⟨lh,hlh⟩:∃ lh:Int × Int,lh=if kind=29∧okR rs=true then (id,nn) else (lo,hi):=⟨_,rfl⟩
    rw [← hlh] at hgv;replace hlim:=Hd hlim;replace hgv:=Hd hgv;replace hlh:=Hd hlh;replace lets2:=Hd lets2;replace okr:=Hd okr;replace hcp:=Hd hcp;replace D2:=Hd D2;go_wp2_with fail;refine D2.out.mono ?_;rintro e w5 ⟨v,rfl,hv⟩;clear D2 c0 c1 c2 c3 c4;obtain ⟨F4,L1,K1,hv⟩:=hv;replace HB:=Hd (HB.out.lk L1);replace HX:=Hd (HX.out.lk L1);replace HL:=Hd (HL.out.trans L1);replace HK:=Hd K1;clear L1 K1
    obtain ⟨vb,vn,vc,rfl⟩:∃ b n c,v=.slice b n c:=by
     rcases hv with ⟨-,h⟩ | ⟨_,_,-,h,-⟩
     ·exact ⟨_,_,_,h⟩
     ·exact ⟨_,_,_,h⟩
    go_upto_region 13 with fail
    go_cut [15] from 36 to 185 (fun s wx=>s=.bool (okR rs)∧wx=w5)
    case first=>as_aux_lemma =>
     rcases hv with ⟨rfl,h⟩ | ⟨g,r0,rfl,h,hk2,-⟩
     ·cases h
      go_wp2_with fail
      go_meet
      exact ⟨rfl,rfl⟩
     ·cases h
      obtain ⟨rk,rc,ri,rn,rw0⟩:=r0;have d4:=hk2.cell 4
      dsimp only [recC] at d4
      by_cases hw:rw0=0
      ·subst hw
       go_wp2_with fail
       go_meet
       exact ⟨rfl,rfl⟩
      ·have g0:(rw0 == 0)=false:=by simpa using hw
       go_wp2_with fail
       go_meet
       exact ⟨by simp [okR,hw],rfl⟩
    case rest =>
    obtain ⟨rfl,rfl⟩:=hcut;clear hv
    obtain ⟨okb,hokb⟩:∃ b,b=okR rs:=⟨_,rfl⟩
    rw [← hokb]
    obtain ⟨c0,c1,c2,c3,c4⟩:=(hE.out.below (top_below hb0.out HL.out)).at hlt
    rw [← hev.out] at c0 c1 c2 c3 c4
    try dsimp only at c0 c1 c2 c3 c4
    have h28:=hlim.out;have h29:=hlh.out;rw [← hokb] at h28 h29;replace hokb:=Hd hokb
    obtain ⟨lim,hlim2⟩:∃ l,l=k1.limit:=⟨_,rfl⟩
    rw [← hlim2] at h28;replace hlim2:=Hd hlim2;replace h28:=Hd h28;replace h29:=Hd h29
    obtain ⟨l0,hl0⟩:∃ l,l=k.limit:=⟨_,rfl⟩
    rw [← hl0] at h28 ⊢;replace hl0:=Hd hl0
    go_upto_region 14 with fail
    go_cut [77] from 36 to 185 (fun s wx=>s=.bool (decide (kind=28∧okb=true))∧wx=wc)
    case first=>as_aux_lemma =>
     by_cases hk:kind=28
     ·subst hk
      cases okb
      all_goals
       go_wp2_with fail
       go_meet
       exact ⟨by simp,rfl⟩
     ·have g28:(kind == 28)=false:=by simpa using hk
      go_wp2_with fail
      go_meet
      exact ⟨by simp [hk],rfl⟩
    case rest =>
    obtain ⟨rfl,rfl⟩:=hcut
    obtain ⟨b28,hb28⟩:∃ q,q=decide (kind=28∧okb=true):=⟨_,rfl⟩
    rw [← hb28]
    have hl28:lim=if b28=true then nn else l0:=by rw [h28.out,hb28];simp
    replace hl28:=Hd hl28;replace hb28:=Hd hb28
    go_upto_if 77 with fail
    go_cut [7] from 36 to 185 (fun s wx=>s=.int .i64 lim∧wx=wc)
    case first=>as_aux_lemma =>
     cases b28
     all_goals
      go_wp2_with fail
      go_meet
      exact ⟨by rw [hl28.out];rfl,rfl⟩
    case rest =>
    obtain ⟨rfl,rfl⟩:=hcut
    go_upto_region 16 with fail
    go_cut [91] from 36 to 185 (fun s wx=>s=.bool (decide (kind=29∧okb=true))∧wx=wc)
    case first=>as_aux_lemma =>
     by_cases hk:kind=29
     ·subst hk
      cases okb
      all_goals
       go_wp2_with fail
       go_meet
       exact ⟨by simp,rfl⟩
     ·have g29:(kind == 29)=false:=by simpa using hk
      go_wp2_with fail
      go_meet
      exact ⟨by simp [hk],rfl⟩
    case rest =>
    obtain ⟨rfl,rfl⟩:=hcut
    obtain ⟨b29,hb29⟩:∃ q,q=decide (kind=29∧okb=true):=⟨_,rfl⟩
    rw [← hb29]
    have hl29:lh=if b29=true then (id,nn) else (lo,hi):=by rw [h29.out,hb29];simp
    replace hl29:=Hd hl29;replace hb29:=Hd hb29
    go_upto_if 91 with fail
    go_cut [8,9] from 36 to 185 (fun s s' wx=>s=.int .i64 lh.1∧s'=.int .i64 lh.2∧wx=wc)
    case first=>as_aux_lemma =>
     cases b29
     all_goals
      go_wp2_with fail
      go_meet
      exact ⟨by rw [hl29.out];rfl,by rw [hl29.out];rfl,rfl⟩
    case rest =>
    obtain ⟨rfl,rfl,rfl⟩:=hcut
    obtain ⟨g,hg⟩:∃ g,g=coreGet k1.co ecpu:=⟨_,rfl⟩
    have G1:=fun (w':World) (h:KAt w' F4 p f k1)=>Hd h.k_cores
    have G2:=fun (w':World) (h:KAt w' F4 p f k1)=>h.kcget ecpu
    rw [← hg] at G2;have lets:=lets2.out;rw [← hg] at lets
    obtain ⟨⟨pn,iw,wn,sn,sm,bn⟩,why2⟩:=g
    dsimp only [coreL] at G2
    replace hg:=Hd hg;replace lets:=Hd lets;have cc:=c1;clear lets2
    go_upto_region 19 with fail
    go_cut [16,17] from 36 to 185 (fun s s' wx=>∃ b2,s=.pointer (some ⟨b2,0,none⟩)∧s'=.int .i64 why2∧Hid (KAt wx F4 p f k1)∧Hid (Lk w1 (Plus W w1 (fun _=>False)) wx F4)∧Hid (Bx wx F4 wb tableCells 45)∧Hid (Bx wx F4 b2 #[.bool pn,.bool iw,.int .i64 wn,.int .i64 sn,.int .i64 sm,.int .i64 bn] 32)∧Hid (Bx wx F4 bb #[.bool po,.bool io,.int .i64 wo,.int .i64 so,.int .i64 st,.int .i64 bo] 32))
    case first=>as_aux_lemma =>
     have hold:∀ w',Below wc.heap.size wc w'→w'.cell? ⟨b,off+i*5+1,none⟩=some (.int .i64 ecpu)∧Below wc.heap.size wc w':=fun w' hb=>⟨keepcell hb cc,hb⟩
     refine wp_region_noPanic ?_
     refine wp_region_held_drew (S:=fun w'=>w'.cell? ⟨b,off+i*5+1,none⟩=some (.int .i64 ecpu)∧Below wc.heap.size wc w') (by kernel_rfl) (hold _ (Below.refl _ _).drew) (fun hHeld=>?_)
     replace hold:=Hd hold
     refine wpAnyH_take (i:=0) (oi:=?_) (v:=?_) ?_ (by kernel_rfl) (by kernel_rfl) (by kernel_rfl) ?_ (Or.inl ⟨?_,?_⟩) hHeld ?_
     rotate_left 2
     ·simp only [sD,sE,sF];rfl
     ·exact fun _ _ _ h=>h
     ·rfl
     ·intro w' hSw;(try dsimp only at hSw);go_simp;(try with_reducible rfl)
     (try simp only [Act.put,sA,sB,sC])
     refine wpAnyH_take (i:=2) (oi:=?_) (v:=?_) ?_ (by kernel_rfl) (by kernel_rfl) (by kernel_rfl) ?_ (Or.inl ⟨?_,?_⟩) hHeld ?_
     rotate_left 2
     ·simp only [sD,sE,sF];rfl
     ·exact fun _ _ _ h=>h
     ·rfl
     ·intro w' hSw;(try dsimp only at hSw);go_simp;(try with_reducible rfl)
     (try simp only [Act.put,sA,sB,sC])
     refine wpAnyH_take (i:=3) (oi:=?_) (v:=?_) ?_ (by kernel_rfl) (by kernel_rfl) (by kernel_rfl) ?_ (Or.inl ⟨?_,?_⟩) hHeld ?_
     rotate_left 2
     ·simp only [sD,sE,sF];rfl
     ·exact fun _ _ _ h=>h
     ·rfl
     ·intro w' hSw;(try dsimp only at hSw);go_simp;(try with_reducible rfl)
     (try simp only [Act.put,sA,sB,sC])
     refine wpAnyH_take (i:=4) (oi:=?_) (v:=?_) ?_ (by kernel_rfl) (by kernel_rfl) (by kernel_rfl) ?_ (Or.inl ⟨?_,?_⟩) hHeld ?_
     rotate_left 2
     ·simp only [sD,sE,sF];rfl
     ·exact fun _ _ _ h=>h
     ·rfl
     ·intro w' hSw;(try dsimp only at hSw);go_simp;(try with_reducible rfl)
     (try simp only [Act.put,sA,sB,sC])
     refine wpAnyH_take (i:=5) (oi:=?_) (v:=?_) ?_ (by kernel_rfl) (by kernel_rfl) (by kernel_rfl) ?_ (Or.inl ⟨?_,?_⟩) hHeld ?_
     rotate_left 2
     ·simp only [sD,sE,sF];rfl
     ·exact fun _ _ _ h=>h
     ·rfl
     ·intro w' hSw;(try dsimp only at hSw);go_simp;(try with_reducible rfl)
     (try simp only [Act.put,sA,sB,sC])
     refine wpAnyH_take (i:=6) (oi:=?_) (v:=?_) ?_ (by kernel_rfl) (by kernel_rfl) (by kernel_rfl) ?_ (Or.inl ⟨?_,?_⟩) hHeld ?_
     rotate_left 2
     ·simp only [sD,sE,sF];rfl
     ·exact fun _ _ _ h=>h
     ·rfl
     ·intro w' hSw;(try dsimp only at hSw);go_simp;(try with_reducible rfl)
     (try simp only [Act.put,sA,sB,sC])
     refine wpAnyH_ready (rs:=[1,11]) (by kernel_rfl) (by simp) ?_
     refine AllReadyH.cons (o:=?_) ?_ (fun K hK=>?_) (AllReadyH.cons (o:=?_) ?_ (fun K hK=>?_) AllReadyH.nil)
     rotate_left 1
     ·simp only [List.getElem?_toArray,List.getElem?_cons_zero,List.getElem?_cons_succ];rfl
     rotate_left 2
     ·simp only [List.getElem?_toArray,List.getElem?_cons_zero,List.getElem?_cons_succ];rfl
     ·go_simp
      have hz:Below wc.heap.size wc (wc.alloc (.cells #[.bool false,.bool false,.int .i64 0,.int .i64 0,.int .i64 0,.int .i64 0] 32)).drew:=((Below.refl _ _).alloc (Nat.le_refl _) _).drew
      replace hz:=Hd hz
      have hHeld:=hold.out _ hz.out
      refine hK.out _ _ hHeld (fun hHeld=>?_)
      clear hK K
      (try simp only [Act.put,List.setIfInBounds_toArray,List.set_cons_zero,List.set_cons_succ])
      have Z0:Bx (wc.alloc (.cells #[.bool false,.bool false,.int .i64 0,.int .i64 0,.int .i64 0,.int .i64 0] 32)).drew F4 wc.heap.size #[.bool false,.bool false,.int .i64 0,.int .i64 0,.int .i64 0,.int .i64 0] 32:=(Bx.new HK.out #[.bool false,.bool false,.int .i64 0,.int .i64 0,.int .i64 0,.int .i64 0] 32).drewN 1
      refine wpAnyH_ready (rs:=[1]) (by kernel_rfl) (by simp) ?_
      refine AllReadyH.cons (o:=?_) ?_ (fun K hK=>?_) AllReadyH.nil
      rotate_left 1
      ·simp only [sD,sE,sF];rfl
      go_simp
      (refine (G1 _ (HK.out.below hz.out)).out.mono ?_;rintro e w2 ⟨rfl,S2⟩;have hb2:Below wc.heap.size wc w2:=hz.out.trans (S2.mono hz.out.size);have hHeld:=hold.out _ hb2;have Z2:=Z0.lk (Lk.of_below S2))
      refine hK.out _ _ hHeld (fun hHeld=>?_)
      clear hK K
      (try simp only [Act.put,sA,sB,sC])
      refine wpAnyH_ready (rs:=[7]) (by kernel_rfl) (by simp) ?_
      refine AllReadyH.cons (o:=?_) ?_ (fun K hK=>?_) AllReadyH.nil
      rotate_left 1
      ·simp only [sD,sE,sF];rfl
      go_simp
      (refine (G2 _ (HK.out.below hb2)).mono ?_;rintro e w3 ⟨rfl,S3⟩;have hb3:=hb2.trans (S3.mono hb2.size);have hHeld:=hold.out _ hb3;have Z3:=Hd (Z2.lk (Lk.of_below S3)))
      refine hK.out _ _ hHeld (fun hHeld=>?_)
      clear hK K
      (try simp only [Act.put,sA,sB,sC])
      refine wpAnyH_take (i:=8) (oi:=?_) (v:=?_) ?_ (by kernel_rfl) (by kernel_rfl) (by kernel_rfl) ?_ (Or.inl ⟨?_,?_⟩) hHeld ?_
      rotate_left 2
      ·simp only [sD,sE,sF];rfl
      ·exact fun _ _ _ h=>h
      ·rfl
      ·intro w' hSw;(try dsimp only at hSw);go_simp;(try with_reducible rfl)
      (try simp only [Act.put,sA,sB,sC])
      refine wpAnyH_take (i:=9) (oi:=?_) (v:=?_) ?_ (by kernel_rfl) (by kernel_rfl) (by kernel_rfl) ?_ (Or.inl ⟨?_,?_⟩) hHeld ?_
      rotate_left 2
      ·simp only [sD,sE,sF];rfl
      ·exact fun _ _ _ h=>h
      ·rfl
      ·intro w' hSw;(try dsimp only at hSw);go_simp;(try with_reducible rfl)
      (try simp only [Act.put,sA,sB,sC])
      refine wpAnyH_take (i:=10) (oi:=?_) (v:=?_) ?_ (by kernel_rfl) (by kernel_rfl) (by kernel_rfl) ?_ (Or.inl ⟨?_,?_⟩) hHeld ?_
      rotate_left 2
      ·simp only [sD,sE,sF];rfl
      ·exact fun _ _ _ h=>h
      ·rfl
      ·intro w' hSw;(try dsimp only at hSw);go_simp;(try with_reducible rfl)
      (try simp only [Act.put,sA,sB,sC])
      obtain ⟨u0x,u1x,u2x,u3x,u4x,u5x,⟨y0,y1,y2,y3,y4,y5⟩,⟨f0,f1,f2,f3,f4,f5⟩,hB,hb6⟩:=six Z3.out.blk rfl (n:=wc.heap.size) (Nat.le_refl _) hb3 (.bool pn) (.bool iw) (.int .i64 wn) (.int .i64 sn) (.int .i64 sm) (.int .i64 bn)
      have hHeld6:=hold.out _ hb6
      refine wpAnyH_ready (rs:=[12]) (by kernel_rfl) (by simp) ?_
      refine AllReadyH.cons (o:=?_) ?_ (fun K hK=>?_) AllReadyH.nil
      rotate_left 1
      ·simp only [sD,sE,sF];rfl
      go_simp
      refine hK.out _ _ hHeld6 (fun hHeld=>?_)
      clear hK K
      (try simp only [Act.put,sA,sB,sC])
      refine wpAnyH_ready (rs:=[13]) (by kernel_rfl) (by simp) ?_
      refine AllReadyH.cons (o:=?_) ?_ (fun K hK=>?_) AllReadyH.nil
      rotate_left 1
      ·simp only [sD,sE,sF];rfl
      go_simp
      refine hK.out _ _ hHeld6 (fun hHeld=>?_)
      clear hK K
      (try simp only [Act.put,sA,sB,sC])
      refine wpAnyH_done (by kernel_rfl) (NoPanic.normal ?_) _
      go_wp2_with fail
      go_meet
      exact ⟨_,rfl,rfl,Hd (HK.out.below hb6),Hd (HL.out.below hb6),Hd (HX.out.lk (Lk.of_below hb6)),Hd ⟨hB,Z3.out.off⟩,Hd (HB.out.lk (Lk.of_below hb6))⟩
     ·go_simp
      refine (G1 _ (HK.out.drewN 1)).out.mono ?_
      rintro e w2 ⟨rfl,S2⟩
      have hb2:Below wc.heap.size wc w2:=(belowN wc 1).trans (S2.mono (by simp))
      have hHeld:=hold.out _ hb2
      refine hK.out _ _ hHeld (fun hHeld=>?_)
      clear hK K
      (try simp only [Act.put,List.setIfInBounds_toArray,List.set_cons_zero,List.set_cons_succ])
      refine wpAnyH_ready (rs:=[7,11]) (by kernel_rfl) (by simp) ?_
      refine AllReadyH.cons (o:=?_) ?_ (fun K hK=>?_) (AllReadyH.cons (o:=?_) ?_ (fun K hK=>?_) AllReadyH.nil)
      rotate_left 1
      ·simp only [List.getElem?_toArray,List.getElem?_cons_zero,List.getElem?_cons_succ];rfl
      rotate_left 2
      ·simp only [List.getElem?_toArray,List.getElem?_cons_zero,List.getElem?_cons_succ];rfl
      ·go_simp
       have hz:=hb2.alloc hb2.size (.cells #[.bool false,.bool false,.int .i64 0,.int .i64 0,.int .i64 0,.int .i64 0] 32)
       have hHeld:=hold.out _ hz
       refine hK.out _ _ hHeld (fun hHeld=>?_)
       clear hK K
       (try simp only [Act.put,List.setIfInBounds_toArray,List.set_cons_zero,List.set_cons_succ])
       have Z0:=Bx.new (HK.out.below hb2) #[.bool false,.bool false,.int .i64 0,.int .i64 0,.int .i64 0,.int .i64 0] 32
       have hn2:=hb2.size
       refine wpAnyH_ready (rs:=[7]) (by kernel_rfl) (by simp) ?_
       refine AllReadyH.cons (o:=?_) ?_ (fun K hK=>?_) AllReadyH.nil
       rotate_left 1
       ·simp only [sD,sE,sF];rfl
       go_simp
       (refine (G2 _ (HK.out.below hz)).mono ?_;rintro e w3 ⟨rfl,S3⟩;have hb3:=hz.trans (S3.mono hz.size);have hHeld:=hold.out _ hb3;have Z3:=Hd (Z0.lk (Lk.of_below S3)))
       refine hK.out _ _ hHeld (fun hHeld=>?_)
       clear hK K
       (try simp only [Act.put,sA,sB,sC])
       refine wpAnyH_take (i:=8) (oi:=?_) (v:=?_) ?_ (by kernel_rfl) (by kernel_rfl) (by kernel_rfl) ?_ (Or.inl ⟨?_,?_⟩) hHeld ?_
       rotate_left 2
       ·simp only [sD,sE,sF];rfl
       ·exact fun _ _ _ h=>h
       ·rfl
       ·intro w' hSw;(try dsimp only at hSw);go_simp;(try with_reducible rfl)
       (try simp only [Act.put,sA,sB,sC])
       refine wpAnyH_take (i:=9) (oi:=?_) (v:=?_) ?_ (by kernel_rfl) (by kernel_rfl) (by kernel_rfl) ?_ (Or.inl ⟨?_,?_⟩) hHeld ?_
       rotate_left 2
       ·simp only [sD,sE,sF];rfl
       ·exact fun _ _ _ h=>h
       ·rfl
       ·intro w' hSw;(try dsimp only at hSw);go_simp;(try with_reducible rfl)
       (try simp only [Act.put,sA,sB,sC])
       refine wpAnyH_take (i:=10) (oi:=?_) (v:=?_) ?_ (by kernel_rfl) (by kernel_rfl) (by kernel_rfl) ?_ (Or.inl ⟨?_,?_⟩) hHeld ?_
       rotate_left 2
       ·simp only [sD,sE,sF];rfl
       ·exact fun _ _ _ h=>h
       ·rfl
       ·intro w' hSw;(try dsimp only at hSw);go_simp;(try with_reducible rfl)
       (try simp only [Act.put,sA,sB,sC])
       obtain ⟨u0x,u1x,u2x,u3x,u4x,u5x,⟨y0,y1,y2,y3,y4,y5⟩,⟨f0,f1,f2,f3,f4,f5⟩,hB,hb6⟩:=six Z3.out.blk rfl (n:=wc.heap.size) hn2 hb3 (.bool pn) (.bool iw) (.int .i64 wn) (.int .i64 sn) (.int .i64 sm) (.int .i64 bn)
       have hHeld6:=hold.out _ hb6
       refine wpAnyH_ready (rs:=[12]) (by kernel_rfl) (by simp) ?_
       refine AllReadyH.cons (o:=?_) ?_ (fun K hK=>?_) AllReadyH.nil
       rotate_left 1
       ·simp only [sD,sE,sF];rfl
       go_simp
       refine hK.out _ _ hHeld6 (fun hHeld=>?_)
       clear hK K
       (try simp only [Act.put,sA,sB,sC])
       refine wpAnyH_ready (rs:=[13]) (by kernel_rfl) (by simp) ?_
       refine AllReadyH.cons (o:=?_) ?_ (fun K hK=>?_) AllReadyH.nil
       rotate_left 1
       ·simp only [sD,sE,sF];rfl
       go_simp
       refine hK.out _ _ hHeld6 (fun hHeld=>?_)
       clear hK K
       (try simp only [Act.put,sA,sB,sC])
       refine wpAnyH_done (by kernel_rfl) (NoPanic.normal ?_) _
       go_wp2_with fail
       go_meet
       exact ⟨_,rfl,rfl,Hd (HK.out.below hb6),Hd (HL.out.below hb6),Hd (HX.out.lk (Lk.of_below hb6)),Hd ⟨hB,Z3.out.off⟩,Hd (HB.out.lk (Lk.of_below hb6))⟩
      ·go_simp
       refine (G2 _ (HK.out.below hb2)).mono ?_
       rintro e w3 ⟨rfl,S3⟩
       have hb3:=hb2.trans (S3.mono hb2.size)
       have hHeld:=hold.out _ hb3
       refine hK.out _ _ hHeld (fun hHeld=>?_)
       clear hK K
       (try simp only [Act.put,List.setIfInBounds_toArray,List.set_cons_zero,List.set_cons_succ])
       refine wpAnyH_take (i:=8) (oi:=?_) (v:=?_) ?_ (by kernel_rfl) (by kernel_rfl) (by kernel_rfl) ?_ (Or.inl ⟨?_,?_⟩) hHeld ?_
       rotate_left 2
       ·simp only [sD,sE,sF];rfl
       ·exact fun _ _ _ h=>h
       ·rfl
       ·intro w' hSw;(try dsimp only at hSw);go_simp;(try with_reducible rfl)
       (try simp only [Act.put,sA,sB,sC])
       refine wpAnyH_take (i:=9) (oi:=?_) (v:=?_) ?_ (by kernel_rfl) (by kernel_rfl) (by kernel_rfl) ?_ (Or.inl ⟨?_,?_⟩) hHeld ?_
       rotate_left 2
       ·simp only [sD,sE,sF];rfl
       ·exact fun _ _ _ h=>h
       ·rfl
       ·intro w' hSw;(try dsimp only at hSw);go_simp;(try with_reducible rfl)
       (try simp only [Act.put,sA,sB,sC])
       refine wpAnyH_take (i:=10) (oi:=?_) (v:=?_) ?_ (by kernel_rfl) (by kernel_rfl) (by kernel_rfl) ?_ (Or.inl ⟨?_,?_⟩) hHeld ?_
       rotate_left 2
       ·simp only [sD,sE,sF];rfl
       ·exact fun _ _ _ h=>h
       ·rfl
       ·intro w' hSw;(try dsimp only at hSw);go_simp;(try with_reducible rfl)
       (try simp only [Act.put,sA,sB,sC])
       have hHeldz:=hold.out _ (hb3.alloc hb3.size (.cells #[.bool false,.bool false,.int .i64 0,.int .i64 0,.int .i64 0,.int .i64 0] 32))
       have hbx:=hb3.alloc hb3.size (.cells #[.bool pn,.bool iw,.int .i64 wn,.int .i64 sn,.int .i64 sm,.int .i64 bn] 32)
       have hHeldx:=hold.out _ hbx
       have Z3:=Bx.new (HK.out.below hb3) #[.bool pn,.bool iw,.int .i64 wn,.int .i64 sn,.int .i64 sm,.int .i64 bn] 32
       refine wpAnyH_ready (rs:=[11]) (by kernel_rfl) (by simp) ?_
       refine AllReadyH.cons (o:=?_) ?_ (fun K hK=>?_) AllReadyH.nil
       rotate_left 1
       ·simp only [sD,sE,sF];rfl
       go_simp
       refine hK.out _ _ hHeldz (fun hHeld=>?_)
       clear hK K
       (try simp only [Act.put,sA,sB,sC])
       refine wpAnyH_ready (rs:=[12]) (by kernel_rfl) (by simp) ?_
       refine AllReadyH.cons (o:=?_) ?_ (fun K hK=>?_) AllReadyH.nil
       rotate_left 1
       ·simp only [sD,sE,sF];rfl
       go_simp
       refine hK.out _ _ hHeldx (fun hHeld=>?_)
       clear hK K
       (try simp only [Act.put,sA,sB,sC])
       refine wpAnyH_ready (rs:=[13]) (by kernel_rfl) (by simp) ?_
       refine AllReadyH.cons (o:=?_) ?_ (fun K hK=>?_) AllReadyH.nil
       rotate_left 1
       ·simp only [sD,sE,sF];rfl
       go_simp
       refine hK.out _ _ hHeldx (fun hHeld=>?_)
       clear hK K
       (try simp only [Act.put,sA,sB,sC])
       refine wpAnyH_done (by kernel_rfl) (NoPanic.normal ?_) _
       go_wp2_with fail
       go_meet
       exact ⟨_,rfl,rfl,Hd (HK.out.below hbx),Hd (HL.out.below hbx),Hd (HX.out.lk (Lk.of_below hbx)),Hd Z3,Hd (HB.out.lk (Lk.of_below hbx))⟩
    case rest =>
    obtain ⟨b2,rfl,rfl,HK2,HL2,HX2,HC,HB2⟩:=hcut;clear HK HL HX HB;have HK:=HK2;have HL:=HL2;have HX:=HX2;have HB:=HB2;clear HK2 HL2 HX2 HB2 G1 G2 c0 c1 c2 c3 c4 cc hg
    obtain ⟨c0,-,-,-,-⟩:=(hE.out.below (top_below hb0.out HL.out)).at hlt
    rw [← hev.out] at c0
    try dsimp only at c0
    go_upto_region 20 with fail
    go_cut [149] from 36 to 185 (fun s wx=>s=.bool false∧wx=wc)
    case first=>as_aux_lemma =>
     have d1:=HB.out.cell 1;have e1:=HC.out.cell 1;have e2:=HC.out.cell 2
     try dsimp only at d1 e1 e2
     cases io with
     | true =>
      go_wp2_with fail
      go_meet
      exact ⟨rfl,rfl⟩
     | false =>
      cases iw with
      | false =>
       go_wp2_with fail
       go_meet
       exact ⟨rfl,rfl⟩
      | true =>
       have L:=lets.out;unfold Lets at L;dsimp only at L
       obtain ⟨rfl,l1,l2,l3⟩:=(L rfl).resolve_left (by decide)
       have hlm:exitF wn≤lim:=by rw [h28.out,if_neg (by omega),hl0.out];exact l3
       have k0:wc.cell? ⟨wb,0,none⟩=some (.int .i64 0):=HX.out.cell 0
       have k3:wc.cell? ⟨wb,3,none⟩=some (.int .i64 2):=HX.out.cell 3
       have k6:wc.cell? ⟨wb,6,none⟩=some (.int .i64 10):=HX.out.cell 6
       have k9:wc.cell? ⟨wb,9,none⟩=some (.int .i64 50):=HX.out.cell 9
       rcases (by omega:wn=0∨wn=1∨wn=2∨wn=3) with rfl | rfl | rfl | rfl
       ·have h9:(0:Int)≤lim:=hlm
        clear hlm l1 l2 l3 L;go_wp2_with fail
        go_meet
        exact ⟨by rw [decide_eq_false (by omega)],rfl⟩
       ·have h9:(2:Int)≤lim:=hlm
        clear hlm l1 l2 l3 L;go_wp2_with fail
        go_meet
        exact ⟨by rw [decide_eq_false (by omega)],rfl⟩
       ·have h9:(10:Int)≤lim:=hlm
        clear hlm l1 l2 l3 L;go_wp2_with fail
        go_meet
        exact ⟨by rw [decide_eq_false (by omega)],rfl⟩
       ·have h9:(50:Int)≤lim:=hlm
        clear hlm l1 l2 l3 L;go_wp2_with fail
        go_meet
        exact ⟨by rw [decide_eq_false (by omega)],rfl⟩
    case rest =>
    obtain ⟨rfl,rfl⟩:=hcut;clear HB HC lets c0;obtain ⟨la,ha⟩:=lh
    try dsimp only
    have hgv2:∀ j,j < n→k1.gv.getD j (0,0)=(la,ha):=by
     intro j hj
     rw [hgv.out]
     simp [List.getD_eq_getElem?_getD,hj]
    replace hgv2:=Hd hgv2;go_wp2
    go_loopw [18,19,20] (fun cv _ _ wr2=>∃ j:Nat,cv=.int .i64 j∧j≤n∧Hid (KAt wr2 F4 p f k1)∧Hid (Lk w1 (Plus W w1 (fun _=>False)) wr2 F4)∧Hid (Bx wr2 F4 wb tableCells 45)) (fun cv _ _ _=>n - (intOf cv).toNat)
    case atStart=>exact ⟨0,rfl,by omega,HK,HL,HX⟩
    case round =>
     clear HK HL HX;obtain ⟨j,rfl,hj,HK,HL,HX⟩:=hrel
     by_cases hjn:j < n
     ·have P:=Hd (HK.out.kgov j (by rw [okr.out.2];exact hjn))
      go_wp2_with fail;refine P.out.mono ?_;rintro e w7 ⟨rfl,S⟩;clear P
      replace HX:=Hd (HX.out.lk (Lk.of_below S))
      replace HL:=Hd (HL.out.below S);replace HK:=Hd (HK.out.below S);clear S
      have P:=HK.out.kvlimits j (by rw [okr.out.2];exact hjn)
      rw [hgv2.out j hjn] at P;replace P:=Hd P;go_wp2_with fail;refine P.out.mono ?_;rintro e w7 ⟨rfl,nd,rfl⟩;clear P;replace HX:=Hd (HX.out.drewN nd);replace HL:=Hd (HL.out.drewN nd);replace HK:=Hd (HK.out.drewN nd)
      have P:=Hd (HK.out.kgov j (by rw [okr.out.2];exact hjn))
      go_wp2_with fail;refine P.out.mono ?_;rintro e w7 ⟨rfl,S⟩;clear P
      replace HX:=Hd (HX.out.lk (Lk.of_below S))
      replace HL:=Hd (HL.out.below S);replace HK:=Hd (HK.out.below S);clear S
      have P:=HK.out.kvfreq j (by rw [okr.out.2];exact hjn)
      rw [hgv2.out j hjn] at P;replace P:=Hd P;go_wp2_with fail;refine P.out.mono ?_;rintro e w7 ⟨⟨x,rfl,x1,x2⟩,S⟩;clear P
      try dsimp only at x1 x2
      replace HX:=Hd (HX.out.lk (Lk.of_below S))
      replace HL:=Hd (HL.out.below S);replace HK:=Hd (HK.out.below S);clear S
      have P:=Hd (HK.out.kgov j (by rw [okr.out.2];exact hjn))
      go_wp2_with fail;refine P.out.mono ?_;rintro e w7 ⟨rfl,S⟩;clear P
      replace HX:=Hd (HX.out.lk (Lk.of_below S))
      replace HL:=Hd (HL.out.below S);replace HK:=Hd (HK.out.below S);clear S
      have P:=HK.out.kvfreq j (by rw [okr.out.2];exact hjn)
      rw [hgv2.out j hjn] at P;replace P:=Hd P;go_wp2_with fail;refine P.out.mono ?_;rintro e w7 ⟨⟨y,rfl,y1,y2⟩,S⟩;clear P
      try dsimp only at y1 y2
      replace HX:=Hd (HX.out.lk (Lk.of_below S))
      replace HL:=Hd (HL.out.below S);replace HK:=Hd (HK.out.below S);clear S;go_wp2;go_roundw
      case rel=>exact ⟨j+1,by go_num,hjn,HK,HL,HX⟩
      case measure=>simp [intOf];omega
     ·go_wp2
      go_roundw
      case rel=>exact ⟨i+1,F4,la,ha,by go_num,hlt,by rw [hst.out,hlim2.out],rfl,rfl,Hd (by rw [hst.out];exact hgv.out),by rw [hst.out];exact HK,HL,HX⟩
      case measure=>simp [intOf];omega
   ·have A:=Hd HK.out.kalive
    go_wp2_with fail;refine A.out.mono ?_;rintro e w2 ⟨rfl,hb⟩;go_wp2;go_returns
    exact ⟨rfl,(top_below hb0.out HL.out).trans (hb.mono (top_below hb0.out HL.out).size)⟩
end
section
open Go.Proofs.YtiocbpabbjgkhaaGreatDoor.Open
theorem limits_row (W:World) (hT:Tab W) (a0:Int) (w0:(Lit.int .i64 a0).wf=true) (a:Option Addr) (len cap:Nat) (V:Nat→Nat→Value) (row:StructRow W a len evKs V) (hle:len≤cap) (hb:len*40≤140737488351232):Calls prog 3 #[.int .i64 a0,.slice a len cap] W fun e W'=>e=.returned (.bool true)∧Below W.heap.size W W' :=
 limits_any W hT a0 a len cap (evs_in row)
end
end Go.Proofs.YtiocbpabbjgkhaaGreatDoor
