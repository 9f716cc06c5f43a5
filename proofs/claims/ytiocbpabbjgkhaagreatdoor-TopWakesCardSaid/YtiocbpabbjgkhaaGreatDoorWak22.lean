/- Part 22 of the proof: contracts and plain laws, each under the conditions that it names. -/
import Derived.Test.YtiocbpabbjgkhaaGreatDoorWak21
import Derived.Deep.Cut
import Derived.Deep.RegionHeld
set_option maxRecDepth 100000
set_option maxHeartbeats 20000000
set_option linter.unusedVariables false
set_option linter.unusedSimpArgs false
namespace Go.Proofs.YtiocbpabbjgkhaaGreatDoor
open Go.RowKit Go.Proofs.Tryz
variable {w w' : World} {F : Nat → Prop} {p : Nat} {f : KF} {k : K}
section
open Go.Proofs.YtiocbpabbjgkhaaGreatDoor.NumD
def kThreadedX (k:K) (e:Ev) (x:Thread) (why:Int):K × List Rec :=
 if why≠0 then (k,ansF 0 why) else
 if e.kind=9 then (k,ansF x.cpu 0) else
 if e.kind=4 then (kExit k e.id x,ansF 0 (kExitR k e.id)) else
 if e.kind=8 then (if (thAim k.th e.id e.mask).2=0 then kMend { k with th:=(thAim k.th e.id e.mask).1 } e.id else { k with th:=(thAim k.th e.id e.mask).1 },ansF 0 (thAim k.th e.id e.mask).2) else
 if x.sleeps≠(e.kind == 7) then (k,ansF 0 6) else
 if e.kind=6 then (kSleep k e.id x e.n,ansF (kSleepR k e.id x e.n).1 (kSleepR k e.id x e.n).2) else
 if e.kind=5 then ({ k with qs:=(runqBack k.qs e.id).1 },ansF 0 (runqBack k.qs e.id).2) else
 (kWake (kQuiet k x.timer) e.id,ansF 0 0)
def kThreaded (k:K) (e:Ev):K × List Rec:=kThreadedX k e (thGet k.th e.id).1 (thGet k.th e.id).2
theorem KAt.kthreaded (h:KAt w F p f k) (hf:fewT k.tm) (e:Ev) (hm:e.mask < top64) (hn:In64 e.n):Calls prog 84 #[.pointer (some ⟨p,0,none⟩),.agg (evC e)] w fun r w'=>KR w F p f (kThreaded k e).1 (kThreaded k e).2 r w':=by
 replace hf:=Hd hf;replace hm:=Hd hm;replace hn:=Hd hn;have H0:=Hd h;have HK:=Hd h;have HL:=Hd (Lk.refl w F);clear h;obtain ⟨kind,cpu,id,m,n⟩:=e;unfold evC;dsimp only at hm hn ⊢
 have HX:=HK.out.bx HL.out #[.int .i64 kind,.int .i64 cpu,.int .i64 id,.int .u64 m,.int .i64 n] 39
 clear HL HK;obtain ⟨HB,HK,HL⟩:=HX;have b0:=HB.out.cell 0;have b2:=HB.out.cell 2;have c0:=HK.out.h0
 have G:=fun (w':World) (h:KAt w' F p f k)=>h.ktget id
 obtain ⟨u,hu⟩:∃ u,u=thGet k.th id:=⟨_,rfl⟩
 rw [← hu] at G
 have hT:kThreaded k ⟨kind,cpu,id,m,n⟩=kThreadedX k ⟨kind,cpu,id,m,n⟩ u.1 u.2:=by rw [hu];rfl
 replace hu:=Hd hu;obtain ⟨x,why⟩:=u
 dsimp only [thCells] at G
 dsimp only at hT;rw [hT];clear hT;replace G:=Hd G;have KW:=Hd (HK.out.drewN 1);have BW:=Hd (HB.out.drewN 1);have ZX:=Hd (Bx.new HK.out #[.int .i64 0,.int .u64 0,.int .i64 0,.bool false,.bool false,.int .i64 0] 79)
 have KZ:=Hd (HK.out.alloc (.cells #[.int .i64 0,.int .u64 0,.int .i64 0,.bool false,.bool false,.int .i64 0] 79))
 have BZ:=Hd (HB.out.alloc (.cells #[.int .i64 0,.int .u64 0,.int .i64 0,.bool false,.bool false,.int .i64 0] 79))
 obtain ⟨W,hW⟩:∃ W,W=w.alloc (.cells #[.int .i64 kind,.int .i64 cpu,.int .i64 id,.int .u64 m,.int .i64 n] 39):=⟨_,rfl⟩
 rw [← hW] at HB HK HL KW BW ZX KZ BZ c0 b0 b2;replace hW:=Hd hW
 have hsz:w.heap.size < W.heap.size:=HB.out.blk.lt
 have z0:=KZ.out.h0;have z2:=BZ.out.cell 2
 go_enter func84,ntmps84
 go_upto_region 1 with fail
 rw [← hW.out]
 go_cut [5,6] from 7 to 17 (fun s5 s6 wx=>∃ b,s5=.pointer (some ⟨b,0,none⟩)∧s6=.int .i64 why∧Hid (KAt wx F p f k)∧Hid (Lk w F wx F)∧Hid (Bx wx F w.heap.size #[.int .i64 kind,.int .i64 cpu,.int .i64 id,.int .u64 m,.int .i64 n] 39)∧Hid (Bx wx F b #[.int .i64 x.prio,.int .u64 x.mask,.int .i64 x.cpu,.bool x.forced,.bool x.sleeps,.int .i64 x.timer] 79))
 case first =>
  refine wp_region_held_drew (S:=fun w'=>(w'.cell? ⟨p,0,none⟩=some (.pointer (some ⟨f.pt 0,0,none⟩))∧w'.cell? ⟨w.heap.size,2,none⟩=some (.int .i64 id))∧Below W.heap.size W w') (by kernel_rfl) ⟨⟨c0,b2⟩,(Below.refl _ _).drew⟩ (fun hHeld=>?_)
  have hold:∀ w',Below W.heap.size W w'→(w'.cell? ⟨p,0,none⟩=some (.pointer (some ⟨f.pt 0,0,none⟩))∧w'.cell? ⟨w.heap.size,2,none⟩=some (.int .i64 id))∧Below W.heap.size W w':=fun w' hb=>⟨⟨keepcell hb c0,keepcell hb b2⟩,hb⟩
  replace hold:=Hd hold
  refine wpAnyH_take (i:=0) (oi:=?_) (v:=?_) ?_ (by kernel_rfl) (by kernel_rfl) (by kernel_rfl) ?_ (Or.inl ⟨?_,?_⟩) hHeld ?_
  rotate_left 2
  ·simp only [sD,sE,sF];rfl
  ·exact fun _ _ _ h=>h
  ·rfl
  ·intro w' hSw;(try dsimp only at hSw);go_simp;(try with_reducible rfl)
  (try simp only [Act.put,sA,sB,sC])
  refine wpAnyH_take (i:=1) (oi:=?_) (v:=?_) ?_ (by kernel_rfl) (by kernel_rfl) (by kernel_rfl) ?_ (Or.inl ⟨?_,?_⟩) hHeld ?_
  rotate_left 2
  ·simp only [sD,sE,sF];rfl
  ·exact fun _ _ _ h=>h
  ·rfl
  ·intro w' hSw;(try dsimp only at hSw);go_simp;(try with_reducible rfl)
  (try simp only [Act.put,sA,sB,sC])
  refine wpAnyH_take (i:=2) (oi:=?_) (v:=?_) ?_ (by kernel_rfl) (by kernel_rfl) (by kernel_rfl) ?_ (Or.inl ⟨?_,?_⟩) hHeld ?_
  rotate_left 2
  ·simp only [sD,sE,sF];rfl
  ·exact fun _ _ _ h=>h
  ·rfl
  ·intro w' hSw;(try dsimp only at hSw);go_simp;(try with_reducible rfl)
  (try simp only [Act.put,sA,sB,sC])
  refine wpAnyH_take (i:=3) (oi:=?_) (v:=?_) ?_ (by kernel_rfl) (by kernel_rfl) (by kernel_rfl) ?_ (Or.inl ⟨?_,?_⟩) hHeld ?_
  rotate_left 2
  ·simp only [sD,sE,sF];rfl
  ·exact fun _ _ _ h=>h
  ·rfl
  ·intro w' hSw;(try dsimp only at hSw);go_simp;(try with_reducible rfl)
  (try simp only [Act.put,sA,sB,sC])
  refine wpAnyH_take (i:=4) (oi:=?_) (v:=?_) ?_ (by kernel_rfl) (by kernel_rfl) (by kernel_rfl) ?_ (Or.inl ⟨?_,?_⟩) hHeld ?_
  rotate_left 2
  ·simp only [sD,sE,sF];rfl
  ·exact fun _ _ _ h=>h
  ·rfl
  ·intro w' hSw;(try dsimp only at hSw);go_simp;(try with_reducible rfl)
  (try simp only [Act.put,sA,sB,sC])
  refine wpAnyH_take (i:=5) (oi:=?_) (v:=?_) ?_ (by kernel_rfl) (by kernel_rfl) (by kernel_rfl) ?_ (Or.inl ⟨?_,?_⟩) hHeld ?_
  rotate_left 2
  ·simp only [sD,sE,sF];rfl
  ·exact fun _ _ _ h=>h
  ·rfl
  ·intro w' hSw;(try dsimp only at hSw);go_simp;(try with_reducible rfl)
  (try simp only [Act.put,sA,sB,sC])
  refine wpAnyH_take (i:=6) (oi:=?_) (v:=?_) ?_ (by kernel_rfl) (by kernel_rfl) (by kernel_rfl) ?_ (Or.inl ⟨?_,?_⟩) hHeld ?_
  rotate_left 2
  ·simp only [sD,sE,sF];rfl
  ·exact fun _ _ _ h=>h
  ·rfl
  ·intro w' hSw;(try dsimp only at hSw);go_simp;(try with_reducible rfl)
  (try simp only [Act.put,sA,sB,sC])
  refine wpAnyH_ready (rs:=[7,11]) (by kernel_rfl) (by simp) ?_
  refine AllReadyH.cons (o:=?_) ?_ (fun K hK=>?_) (AllReadyH.cons (o:=?_) ?_ (fun K hK=>?_) AllReadyH.nil)
  rotate_left 1
  ·simp only [List.getElem?_toArray,List.getElem?_cons_zero,List.getElem?_cons_succ];rfl
  rotate_left 2
  ·simp only [List.getElem?_toArray,List.getElem?_cons_zero,List.getElem?_cons_succ];rfl
  ·go_simp
   have hz:Below W.heap.size W (W.alloc (.cells #[.int .i64 0,.int .u64 0,.int .i64 0,.bool false,.bool false,.int .i64 0] 79)).drew:=((Below.refl _ _).alloc (Nat.le_refl _) _).drew
   replace hz:=Hd hz
   have hHeld:=hold.out _ hz.out
   refine hK.out _ _ hHeld (fun hHeld=>?_)
   clear hK K
   (try simp only [Act.put,List.setIfInBounds_toArray,List.set_cons_zero,List.set_cons_succ])
   refine wpAnyH_ready (rs:=[7]) (by kernel_rfl) (by simp) ?_
   refine AllReadyH.cons (o:=?_) ?_ (fun K hK=>?_) AllReadyH.nil
   rotate_left 1
   ·simp only [sD,sE,sF];rfl
   go_simp
   (refine (G.out _ (KZ.out.drewN 1)).mono ?_;rintro e w1 ⟨rfl,S⟩;have hb:Below W.heap.size W w1:=hz.out.trans (S.mono hz.out.size);have hHeld:=hold.out _ hb;have Z:=Hd ((ZX.out.drewN 1).lk (Lk.of_below S));replace hb:=Hd hb)
   refine hK.out _ _ hHeld (fun hHeld=>?_)
   clear hK K
   (try simp only [Act.put,sA,sB,sC])
   refine wpAnyH_take (i:=8) (oi:=?_) (v:=?_) ?_ (by kernel_rfl) (by kernel_rfl) (by kernel_rfl) ?_ (Or.inl ⟨?_,?_⟩) hHeld ?_
   rotate_left 2
   ·simp only [sD,sE,sF];rfl
   ·exact fun _ _ _ h=>h
   ·rfl
   ·intro w' hSw;(try dsimp only at hSw);go_simp;(try with_reducible rfl)
   (try simp only [Act.put,sA,sB,sC])
   refine wpAnyH_take (i:=9) (oi:=?_) (v:=?_) ?_ (by kernel_rfl) (by kernel_rfl) (by kernel_rfl) ?_ (Or.inl ⟨?_,?_⟩) hHeld ?_
   rotate_left 2
   ·simp only [sD,sE,sF];rfl
   ·exact fun _ _ _ h=>h
   ·rfl
   ·intro w' hSw;(try dsimp only at hSw);go_simp;(try with_reducible rfl)
   (try simp only [Act.put,sA,sB,sC])
   refine wpAnyH_take (i:=10) (oi:=?_) (v:=?_) ?_ (by kernel_rfl) (by kernel_rfl) (by kernel_rfl) ?_ (Or.inl ⟨?_,?_⟩) hHeld ?_
   rotate_left 2
   ·simp only [sD,sE,sF];rfl
   ·exact fun _ _ _ h=>h
   ·rfl
   ·intro w' hSw;(try dsimp only at hSw);go_simp;(try with_reducible rfl)
   (try simp only [Act.put,sA,sB,sC])
   have y0:w1.cell? ⟨W.heap.size,0,none⟩=some (.int .i64 0):=Z.out.cell 0
   have f0:w1.frozen? ⟨W.heap.size,0,none⟩=false:=Z.out.blk.frozen 0
   have y1:w1.cell? ⟨W.heap.size,1,none⟩=some (.int .u64 0):=Z.out.cell 1
   have f1:w1.frozen? ⟨W.heap.size,1,none⟩=false:=Z.out.blk.frozen 1
   have y2:w1.cell? ⟨W.heap.size,2,none⟩=some (.int .i64 0):=Z.out.cell 2
   have f2:w1.frozen? ⟨W.heap.size,2,none⟩=false:=Z.out.blk.frozen 2
   have y3:w1.cell? ⟨W.heap.size,3,none⟩=some (.bool false):=Z.out.cell 3
   have f3:w1.frozen? ⟨W.heap.size,3,none⟩=false:=Z.out.blk.frozen 3
   have y4:w1.cell? ⟨W.heap.size,4,none⟩=some (.bool false):=Z.out.cell 4
   have f4:w1.frozen? ⟨W.heap.size,4,none⟩=false:=Z.out.blk.frozen 4
   have y5:w1.cell? ⟨W.heap.size,5,none⟩=some (.int .i64 0):=Z.out.cell 5
   have f5:w1.frozen? ⟨W.heap.size,5,none⟩=false:=Z.out.blk.frozen 5
   have hb6:=Hd (((((((hb.setCell (p:=⟨W.heap.size,0,none⟩) (Nat.le_refl _) (.int .i64 x.prio)).setCell (p:=⟨W.heap.size,1,none⟩) (Nat.le_refl _) (.int .u64 x.mask)).setCell (p:=⟨W.heap.size,2,none⟩) (Nat.le_refl _) (.int .i64 x.cpu)).setCell (p:=⟨W.heap.size,3,none⟩) (Nat.le_refl _) (.bool x.forced)).setCell (p:=⟨W.heap.size,4,none⟩) (Nat.le_refl _) (.bool x.sleeps)).setCell (p:=⟨W.heap.size,5,none⟩) (Nat.le_refl _) (.int .i64 x.timer)))
   have hX:Blk _ W.heap.size #[.int .i64 x.prio,.int .u64 x.mask,.int .i64 x.cpu,.bool x.forced,.bool x.sleeps,.int .i64 x.timer] 79:=((((((Z.out.blk.set 0 (.int .i64 x.prio)).set 1 (.int .u64 x.mask)).set 2 (.int .i64 x.cpu)).set 3 (.bool x.forced)).set 4 (.bool x.sleeps)).set 5 (.int .i64 x.timer))
   replace hX:=Hd hX
   have hHeld6:=hold.out _ hb6.out
   refine wpAnyH_ready (rs:=[12]) (by kernel_rfl) (by simp) ?_
   refine AllReadyH.cons (o:=?_) ?_ (fun K hK=>?_) AllReadyH.nil
   rotate_left 1
   ·simp only [sD,sE,sF];rfl
   go_simp
   refine hK.out _ _ hHeld6 (fun hHeld=>?_)
   clear hK K
   (try simp only [Act.put,sA,sB,sC])
   clear y0 y1 y2 y3 y4 y5 f0 f1 f2 f3 f4 f5
   refine wpAnyH_ready (rs:=[13]) (by kernel_rfl) (by simp) ?_
   refine AllReadyH.cons (o:=?_) ?_ (fun K hK=>?_) AllReadyH.nil
   rotate_left 1
   ·simp only [sD,sE,sF];rfl
   go_simp
   refine hK.out _ _ hHeld6 (fun hHeld=>?_)
   clear hK K
   (try simp only [Act.put,sA,sB,sC])
   refine wpAnyH_done (by kernel_rfl) ?_ _
   go_wp2_with fail
   go_meet
   exact ⟨_,rfl,rfl,Hd (HK.out.below hb6.out),Hd (HL.out.below hb6.out),Hd (HB.out.lk (Lk.of_below hb6.out)),Hd ⟨hX.out,Z.out.off⟩⟩
  ·go_simp
   refine (G.out _ KW.out).mono ?_;rintro e w1 ⟨rfl,S⟩
   have hb:Below W.heap.size W w1:=(belowN W 1).trans (S.mono (by simp))
   have hHeld:=hold.out _ hb
   refine hK.out _ _ hHeld (fun hHeld=>?_)
   clear hK K
   (try simp only [Act.put,List.setIfInBounds_toArray,List.set_cons_zero,List.set_cons_succ])
   have KX:=Hd (HK.out.below hb);have HX:=Hd (Bx.new KX.out #[.int .i64 x.prio,.int .u64 x.mask,.int .i64 x.cpu,.bool x.forced,.bool x.sleeps,.int .i64 x.timer] 79)
   have hbx:=hb.alloc hb.size (.cells #[.int .i64 x.prio,.int .u64 x.mask,.int .i64 x.cpu,.bool x.forced,.bool x.sleeps,.int .i64 x.timer] 79)
   have hbz:=hb.alloc hb.size (.cells #[.int .i64 0,.int .u64 0,.int .i64 0,.bool false,.bool false,.int .i64 0] 79)
   have hHeldx:=hold.out _ hbx
   have hHeldz:=hold.out _ hbz
   replace hb:=Hd hb;replace hbx:=Hd hbx;replace hbz:=Hd hbz;replace S:=Hd S
   refine wpAnyH_take (i:=8) (oi:=?_) (v:=?_) ?_ (by kernel_rfl) (by kernel_rfl) (by kernel_rfl) ?_ (Or.inl ⟨?_,?_⟩) hHeld ?_
   rotate_left 2
   ·simp only [sD,sE,sF];rfl
   ·exact fun _ _ _ h=>h
   ·rfl
   ·intro w' hSw;(try dsimp only at hSw);go_simp;(try with_reducible rfl)
   (try simp only [Act.put,sA,sB,sC])
   refine wpAnyH_take (i:=9) (oi:=?_) (v:=?_) ?_ (by kernel_rfl) (by kernel_rfl) (by kernel_rfl) ?_ (Or.inl ⟨?_,?_⟩) hHeld ?_
   rotate_left 2
   ·simp only [sD,sE,sF];rfl
   ·exact fun _ _ _ h=>h
   ·rfl
   ·intro w' hSw;(try dsimp only at hSw);go_simp;(try with_reducible rfl)
   (try simp only [Act.put,sA,sB,sC])
   refine wpAnyH_take (i:=10) (oi:=?_) (v:=?_) ?_ (by kernel_rfl) (by kernel_rfl) (by kernel_rfl) ?_ (Or.inl ⟨?_,?_⟩) hHeld ?_
   rotate_left 2
   ·simp only [sD,sE,sF];rfl
   ·exact fun _ _ _ h=>h
   ·rfl
   ·intro w' hSw;(try dsimp only at hSw);go_simp;(try with_reducible rfl)
   (try simp only [Act.put,sA,sB,sC])
   refine wpAnyH_ready (rs:=[11]) (by kernel_rfl) (by simp) ?_
   refine AllReadyH.cons (o:=?_) ?_ (fun K hK=>?_) AllReadyH.nil
   rotate_left 1
   ·simp only [sD,sE,sF];rfl
   go_simp
   refine hK.out _ _ hHeldz (fun hHeld=>?_)
   clear hK K
   (try simp only [Act.put,sA,sB,sC])
   refine wpAnyH_ready (rs:=[12]) (by kernel_rfl) (by simp) ?_
   refine AllReadyH.cons (o:=?_) ?_ (fun K hK=>?_) AllReadyH.nil
   rotate_left 1
   ·simp only [sD,sE,sF];rfl
   go_simp
   refine hK.out _ _ hHeldx (fun hHeld=>?_)
   clear hK K
   (try simp only [Act.put,sA,sB,sC])
   refine wpAnyH_ready (rs:=[13]) (by kernel_rfl) (by simp) ?_
   refine AllReadyH.cons (o:=?_) ?_ (fun K hK=>?_) AllReadyH.nil
   rotate_left 1
   ·simp only [sD,sE,sF];rfl
   go_simp
   refine hK.out _ _ hHeldx (fun hHeld=>?_)
   clear hK K
   (try simp only [Act.put,sA,sB,sC])
   refine wpAnyH_done (by kernel_rfl) ?_ _
   go_wp2_with fail
   go_meet
   exact ⟨_,rfl,rfl,Hd (HK.out.below hbx.out),Hd (HL.out.below hbx.out),Hd (HB.out.lk (Lk.of_below hbx.out)),HX⟩
 case rest =>
  obtain ⟨b,rfl,rfl,HK2,HL2,HB2,HX⟩:=hcut;clear HK HL HB ZX KZ BZ KW BW z0 z2 G c0 hsz hW;have HK:=HK2;have HL:=HL2;have HB:=HB2;clear HK2 HL2 HB2;have b0:=HB.out.cell 0;have b2:=HB.out.cell 2
  by_cases h0:why=0
  ·subst h0
   by_cases h9:kind=9
   ·subst h9
    have x2:=HX.out.cell 2;have P:=Hd (kanswer H0.out HL.out HK.out x.cpu 0);go_wp2_with fail;refine P.out.mono ?_;rintro e w1 ⟨⟨v,rfl,hv⟩,S⟩;replace hv:=Hd hv;clear P;go_wp2;go_returns
    have E:kThreadedX k ⟨9,cpu,id,m,n⟩ x 0=(k,ansF x.cpu 0):=by simp [kThreadedX]
    rw [E]
    exact ⟨⟨_,rfl,hv.out⟩,S⟩
   have g9:(kind == 9)=false:=by simpa using h9
   by_cases h4:kind=4
   ·subst h4
    clear h9 g9;have x0:=HX.out.cell 0;have x1:=HX.out.cell 1;have x2:=HX.out.cell 2;have x3:=HX.out.cell 3;have x4:=HX.out.cell 4;have x5:=HX.out.cell 5;have Q:=Hd (HK.out.kexit id x);go_wp2_with fail;refine Q.out.mono ?_;rintro e w1 ⟨rfl,S⟩;clear Q x0 x1 x2 x3 x4 x5;replace S:=S.nx HL.out;clear HL HK;obtain ⟨F1,HK,HL⟩:=S
    try dsimp only at HK
    have P:=Hd (kplain H0.out HL.out HK.out (kExitR k id))
    go_wp2_with fail;refine P.out.mono ?_;rintro e w1 ⟨⟨v,rfl,hv⟩,S⟩;replace hv:=Hd hv;clear P;go_wp2;go_returns
    have E:kThreadedX k ⟨4,cpu,id,m,n⟩ x 0=(kExit k id x,ansF 0 (kExitR k id)):=by simp [kThreadedX]
    rw [E]
    exact ⟨⟨_,rfl,hv.out⟩,S⟩
   have g4:(kind == 4)=false:=by simpa using h4
   by_cases h8:kind=8
   ·subst h8
    clear h9 g9 h4 g4
    obtain ⟨t,ht⟩:∃ t,t=thAim k.th id m:=⟨_,rfl⟩
    have ht0:=ht;replace ht:=Hd ht;obtain ⟨t1,why2⟩:=t;replace ht0:=Hd ht0.symm;have b3:=HB.out.cell 3;have c0:=HK.out.h0
    have Q:=fun n=>(HK.out.drewN n).ktaim id m hm.out
    rw [← ht.out] at Q;dsimp only at Q
    replace Q:=fun n=>Hd (Q n)
    by_cases e2:why2=0
    ·subst e2
     go_wp2
     refine region_tailC (C:=fun w'=>∃ k,w'=(wc).drewN k) 9 ?_ ?_ ?_ ?_;(kernel_rfl);(kernel_rfl);(first | exact cls0 _ | exact clsN _ _);simp only [List.take_succ_cons,List.take_zero,List.drop_succ_cons,List.drop_zero];(repeat (go_big_quiet_step (fail)));refine wpQuiet_nil ?_;rintro _ ⟨nq,rfl⟩
     go_wp2_with fail;refine (Q nq).out.mono ?_;rintro e w2 ⟨rfl,S⟩;clear Q c0 b3;replace HB:=Hd (HB.out.drewN nq);replace HL:=Hd (HL.out.drewN nq);replace HK:=Hd (HK.out.drewN nq);obtain ⟨F1,L1,K1⟩:=S.open;clear S
     try dsimp only at K1
     replace HB:=Hd (HB.out.lk L1);replace HL:=Hd (HL.out.trans L1);replace HK:=Hd K1;clear L1 K1
     replace b0:=HB.out.cell 0
     replace b2:=HB.out.cell 2
     have P:=Hd (HK.out.kmend id);go_wp2_with fail;refine P.out.mono ?_;rintro e w1 ⟨rfl,S⟩;clear P;replace S:=S.nx HL.out;clear HL HK;obtain ⟨F1,HK,HL⟩:=S
     try dsimp only at HK
     have P:=Hd (kplain H0.out HL.out HK.out 0);go_wp2_with fail;refine P.out.mono ?_;rintro e w1 ⟨⟨v,rfl,hv⟩,S⟩;replace hv:=Hd hv;clear P;go_wp2;go_returns
     have E:kThreadedX k ⟨8,cpu,id,m,n⟩ x 0=(kMend { k with th:=t1 } id,ansF 0 0):=by simp [kThreadedX,ht0.out]
     rw [E]
     exact ⟨⟨_,rfl,hv.out⟩,S⟩
    ·have e3:(why2 == 0)=false:=by simpa using e2
     go_wp2
     refine region_tailC (C:=fun w'=>∃ k,w'=(wc).drewN k) 9 ?_ ?_ ?_ ?_;(kernel_rfl);(kernel_rfl);(first | exact cls0 _ | exact clsN _ _);simp only [List.take_succ_cons,List.take_zero,List.drop_succ_cons,List.drop_zero];(repeat (go_big_quiet_step (fail)));refine wpQuiet_nil ?_;rintro _ ⟨nq,rfl⟩
     go_wp2_with fail;refine (Q nq).out.mono ?_;rintro e w2 ⟨rfl,S⟩;clear Q c0 b3;replace HB:=Hd (HB.out.drewN nq);replace HL:=Hd (HL.out.drewN nq);replace HK:=Hd (HK.out.drewN nq);obtain ⟨F1,L1,K1⟩:=S.open;clear S
     try dsimp only at K1
     replace HB:=Hd (HB.out.lk L1);replace HL:=Hd (HL.out.trans L1);replace HK:=Hd K1;clear L1 K1
     replace b0:=HB.out.cell 0
     replace b2:=HB.out.cell 2
     have P:=Hd (kplain H0.out HL.out HK.out why2);go_wp2_with fail;refine P.out.mono ?_;rintro e w1 ⟨⟨v,rfl,hv⟩,S⟩;replace hv:=Hd hv;clear P;go_wp2;go_returns
     have E:kThreadedX k ⟨8,cpu,id,m,n⟩ x 0=({ k with th:=t1 },ansF 0 why2):=by simp [kThreadedX,ht0.out,e2]
     rw [E]
     exact ⟨⟨_,rfl,hv.out⟩,S⟩
   have g8:(kind == 8)=false:=by simpa using h8
   obtain ⟨prio,mask,cpu2,forced,sleeps,timer⟩:=x;dsimp only at HX;have x4:=HX.out.cell 4;have x5:=HX.out.cell 5
   by_cases h6:kind=6
   ·subst h6
    clear h9 g9 h4 g4 h8 g8
    cases sleeps with
    | true =>
     have P:=Hd (kplain H0.out HL.out HK.out 6);go_wp2_with fail;refine P.out.mono ?_;rintro e w1 ⟨⟨v,rfl,hv⟩,S⟩;replace hv:=Hd hv;clear P;go_wp2;go_returns
     have E:kThreadedX k ⟨6,cpu,id,m,n⟩ ⟨prio,mask,cpu2,forced,true,timer⟩ 0=(k,ansF 0 6):=by simp [kThreadedX]
     rw [E]
     exact ⟨⟨_,rfl,hv.out⟩,S⟩
    | false =>
     have b4:=HB.out.cell 4;have x0:=HX.out.cell 0;have x1:=HX.out.cell 1;have x2:=HX.out.cell 2;have x3:=HX.out.cell 3;have Q:=Hd (HK.out.ksleep hf.out id ⟨prio,mask,cpu2,forced,false,timer⟩ n hn.out);go_wp2_with fail;refine Q.out.mono ?_;rintro e w1 ⟨rfl,S⟩;clear Q x0 x1 x2 x3 x4 x5 b4;replace S:=S.nx HL.out;clear HL HK;obtain ⟨F1,HK,HL⟩:=S
     try dsimp only at HK
     have P:=Hd (kanswer H0.out HL.out HK.out (kSleepR k id ⟨prio,mask,cpu2,forced,false,timer⟩ n).1 (kSleepR k id ⟨prio,mask,cpu2,forced,false,timer⟩ n).2)
     go_wp2_with fail;refine P.out.mono ?_;rintro e w1 ⟨⟨v,rfl,hv⟩,S⟩;replace hv:=Hd hv;clear P;go_wp2;go_returns
     have E:kThreadedX k ⟨6,cpu,id,m,n⟩ ⟨prio,mask,cpu2,forced,false,timer⟩ 0=(kSleep k id ⟨prio,mask,cpu2,forced,false,timer⟩ n,ansF (kSleepR k id ⟨prio,mask,cpu2,forced,false,timer⟩ n).1 (kSleepR k id ⟨prio,mask,cpu2,forced,false,timer⟩ n).2):=by simp [kThreadedX]
     rw [E]
     exact ⟨⟨_,rfl,hv.out⟩,S⟩
   have g6:(kind == 6)=false:=by simpa using h6
   by_cases h5:kind=5
   ·subst h5
    clear h9 g9 h4 g4 h8 g8 h6 g6
    cases sleeps with
    | true =>
     have P:=Hd (kplain H0.out HL.out HK.out 6);go_wp2_with fail;refine P.out.mono ?_;rintro e w1 ⟨⟨v,rfl,hv⟩,S⟩;replace hv:=Hd hv;clear P;go_wp2;go_returns
     have E:kThreadedX k ⟨5,cpu,id,m,n⟩ ⟨prio,mask,cpu2,forced,true,timer⟩ 0=(k,ansF 0 6):=by simp [kThreadedX]
     rw [E]
     exact ⟨⟨_,rfl,hv.out⟩,S⟩
    | false =>
     have c1:=HK.out.h1
     have Q:=Hd ((HK.out.drewN 1).krback id)
     have BQ:=Hd (HB.out.drewN 1);replace HL:=Hd (HL.out.drewN 1);go_wp2_with fail
     go_region_held3 (fun w'=>w'.cell? ⟨p,1,none⟩=some (.pointer (some ⟨f.pt 1,0,none⟩))∧w'.cell? ⟨w.heap.size,2,none⟩=some (.int .i64 id))
      (first
       | exact ⟨c1,b2⟩
       | exact ⟨S.1.h1,(S.keep BQ.out.blk BQ.out.off).cell 2⟩
       | exact ⟨keepcell hb S.1.h1,keepcell hb ((S.keep BQ.out.blk BQ.out.off).cell 2)⟩
       | (go_split_ands;refine ⟨?_,?_⟩ <;> first | exact S.1.h1 | exact (S.keep BQ.out.blk BQ.out.off).cell 2 | exact keepcell hb S.1.h1 | exact keepcell hb ((S.keep BQ.out.blk BQ.out.off).cell 2) | exact c1 | exact b2)
       | go_keep)
      (first
       | (go_at_call 135;refine Q.out.mono ?_;rintro e w1 ⟨rfl,S⟩)
       | (go_at_call 79;refine (plain_any _ _).mono ?_;rintro e w2 ⟨⟨v,rfl,hv⟩,hb⟩))
     replace hv:=Hd hv;replace S:=S.nx HL.out;clear HL HK;obtain ⟨F1,HK,HL⟩:=S
     try dsimp only at HK
     replace hv:=Hd (RecsK.of HL.out HK.out hb hv.out);have S:=hb;replace HL:=Hd (HL.out.below S);replace HK:=Hd (HK.out.below S);clear S;clear hb;go_wp2;go_returns
     have E:kThreadedX k ⟨5,cpu,id,m,n⟩ ⟨prio,mask,cpu2,forced,false,timer⟩ 0=({ k with qs:=(runqBack k.qs id).1 },ansF 0 (runqBack k.qs id).2):=by simp [kThreadedX]
     rw [E]
     exact ⟨⟨_,rfl,hv.out⟩,HK.out.close HL.out H0.out⟩
   have g5:(kind == 5)=false:=by simpa using h5
   by_cases h7:kind=7
   ·subst h7
    clear h9 g9 h4 g4 h8 g8 h6 g6 h5 g5
    cases sleeps with
    | false =>
     have P:=Hd (kplain H0.out HL.out HK.out 6);go_wp2_with fail;refine P.out.mono ?_;rintro e w1 ⟨⟨v,rfl,hv⟩,S⟩;replace hv:=Hd hv;clear P;go_wp2;go_returns
     have E:kThreadedX k ⟨7,cpu,id,m,n⟩ ⟨prio,mask,cpu2,forced,false,timer⟩ 0=(k,ansF 0 6):=by simp [kThreadedX]
     rw [E]
     exact ⟨⟨_,rfl,hv.out⟩,S⟩
    | true =>
     have P:=Hd (HK.out.kquiet timer);go_wp2_with fail;refine P.out.mono ?_;rintro e w1 ⟨rfl,S⟩;clear P;obtain ⟨F1,L1,K1⟩:=S.open;clear S
     try dsimp only at K1
     replace HB:=Hd (HB.out.lk L1);replace HL:=Hd (HL.out.trans L1);replace HK:=Hd K1;clear L1 K1
     replace b0:=HB.out.cell 0
     replace b2:=HB.out.cell 2
     clear x4 x5;have P:=Hd (HK.out.kwake id);go_wp2_with fail;refine P.out.mono ?_;rintro e w1 ⟨rfl,S⟩;clear P;replace S:=S.nx HL.out;clear HL HK;obtain ⟨F1,HK,HL⟩:=S
     try dsimp only at HK
     have P:=Hd (kplain H0.out HL.out HK.out 0);go_wp2_with fail;refine P.out.mono ?_;rintro e w1 ⟨⟨v,rfl,hv⟩,S⟩;replace hv:=Hd hv;clear P;go_wp2;go_returns
     have E:kThreadedX k ⟨7,cpu,id,m,n⟩ ⟨prio,mask,cpu2,forced,true,timer⟩ 0=(kWake (kQuiet k timer) id,ansF 0 0):=by simp [kThreadedX]
     rw [E]
     exact ⟨⟨_,rfl,hv.out⟩,S⟩
   have g7:(kind == 7)=false:=by simpa using h7
   cases sleeps with
   | true =>
    have P:=Hd (kplain H0.out HL.out HK.out 6);go_wp2_with fail;refine P.out.mono ?_;rintro e w1 ⟨⟨v,rfl,hv⟩,S⟩;replace hv:=Hd hv;clear P;go_wp2;go_returns
    have E:kThreadedX k ⟨kind,cpu,id,m,n⟩ ⟨prio,mask,cpu2,forced,true,timer⟩ 0=(k,ansF 0 6):=by simp [kThreadedX,h9,h4,h8,h7]
    rw [E]
    exact ⟨⟨_,rfl,hv.out⟩,S⟩
   | false =>
    have P:=Hd (HK.out.kquiet timer);go_wp2_with fail;refine P.out.mono ?_;rintro e w1 ⟨rfl,S⟩;clear P;obtain ⟨F1,L1,K1⟩:=S.open;clear S
    try dsimp only at K1
    replace HB:=Hd (HB.out.lk L1);replace HL:=Hd (HL.out.trans L1);replace HK:=Hd K1;clear L1 K1
    replace b0:=HB.out.cell 0
    replace b2:=HB.out.cell 2
    clear x4 x5;have P:=Hd (HK.out.kwake id);go_wp2_with fail;refine P.out.mono ?_;rintro e w1 ⟨rfl,S⟩;clear P;replace S:=S.nx HL.out;clear HL HK;obtain ⟨F1,HK,HL⟩:=S
    try dsimp only at HK
    have P:=Hd (kplain H0.out HL.out HK.out 0);go_wp2_with fail;refine P.out.mono ?_;rintro e w1 ⟨⟨v,rfl,hv⟩,S⟩;replace hv:=Hd hv;clear P;go_wp2;go_returns
    have E:kThreadedX k ⟨kind,cpu,id,m,n⟩ ⟨prio,mask,cpu2,forced,false,timer⟩ 0=(kWake (kQuiet k timer) id,ansF 0 0):=by simp [kThreadedX,h9,h4,h8,h7,h6,h5]
    rw [E]
    exact ⟨⟨_,rfl,hv.out⟩,S⟩
  ·have g0:(why == 0)=false:=by simpa using h0
   have P:=Hd (kplain H0.out HL.out HK.out why);go_wp2_with fail;refine P.out.mono ?_;rintro e w1 ⟨⟨v,rfl,hv⟩,S⟩;replace hv:=Hd hv;clear P;go_wp2;go_returns
   have E:kThreadedX k ⟨kind,cpu,id,m,n⟩ x why=(k,ansF 0 why):=by simp [kThreadedX,h0]
   rw [E]
   exact ⟨⟨_,rfl,hv.out⟩,S⟩
end
theorem KAt.kown (h:KAt w F p f k):Calls prog 77 #[.pointer (some ⟨p,0,none⟩)] w fun e w'=>e=.returned (.agg #[.pointer (some ⟨f.pt 0,0,none⟩),.pointer (some ⟨f.pt 1,0,none⟩),.pointer (some ⟨f.pt 2,0,none⟩),.pointer (some ⟨f.pt 3,0,none⟩),.pointer (some ⟨f.pt 4,0,none⟩),.pointer (some ⟨f.pt 5,0,none⟩),.pointer (some ⟨f.pt 6,0,none⟩),.pointer (some ⟨f.pt 7,0,none⟩),.pointer (some ⟨f.pt 8,0,none⟩),.pointer (some ⟨f.pt 9,0,none⟩),.pointer (some ⟨f.pt 10,0,none⟩),.pointer (some ⟨f.pt 11,0,none⟩),.pointer (some ⟨f.pt 12,0,none⟩),.pointer (some ⟨f.pt 13,0,none⟩),f.gv])∧Below w.heap.size w w':=by
 have c0:=fun o=>(h.alloc o).h0
 have c1:=fun o=>(h.alloc o).h1
 have c2:=fun o=>(h.alloc o).h2
 have c3:=fun o=>(h.alloc o).h3
 have c4:=fun o=>(h.alloc o).h4
 have c5:=fun o=>(h.alloc o).h5
 have c6:=fun o=>(h.alloc o).h6
 have c7:=fun o=>(h.alloc o).h7
 have c8:=fun o=>(h.alloc o).h8
 have c9:=fun o=>(h.alloc o).h9
 have c10:=fun o=>(h.alloc o).h10
 have c11:=fun o=>(h.alloc o).h11
 have c12:=fun o=>(h.alloc o).h12
 have c13:=fun o=>(h.alloc o).h13
 have c14:=fun o=>(h.alloc o).hgv
 obtain ⟨g,gc,e,-,-,-,-⟩:=h.gopen;rw [e] at c14 ⊢;generalize k.cpus=n at c14 ⊢;clear h e
 go_enter func77,ntmps77
 go_wp2;go_returns
 exact ⟨rfl,(Below.refl _ _).alloc (Nat.le_refl _) _⟩
theorem field102 (a0 a1 a2 a3 a4 a5 a6 a7 a8 a9 a10 a11 a12 a13:Nat) (v:Value) (w:World):(Instr.field 102 (.agg #[.pointer (some ⟨a0,0,none⟩),.pointer (some ⟨a1,0,none⟩),.pointer (some ⟨a2,0,none⟩),.pointer (some ⟨a3,0,none⟩),.pointer (some ⟨a4,0,none⟩),.pointer (some ⟨a5,0,none⟩),.pointer (some ⟨a6,0,none⟩),.pointer (some ⟨a7,0,none⟩),.pointer (some ⟨a8,0,none⟩),.pointer (some ⟨a9,0,none⟩),.pointer (some ⟨a10,0,none⟩),.pointer (some ⟨a11,0,none⟩),.pointer (some ⟨a12,0,none⟩),.pointer (some ⟨a13,0,none⟩),v]) 0).run prog w=.ok (.pointer (some ⟨a0,0,none⟩)) w∧(Instr.field 102 (.agg #[.pointer (some ⟨a0,0,none⟩),.pointer (some ⟨a1,0,none⟩),.pointer (some ⟨a2,0,none⟩),.pointer (some ⟨a3,0,none⟩),.pointer (some ⟨a4,0,none⟩),.pointer (some ⟨a5,0,none⟩),.pointer (some ⟨a6,0,none⟩),.pointer (some ⟨a7,0,none⟩),.pointer (some ⟨a8,0,none⟩),.pointer (some ⟨a9,0,none⟩),.pointer (some ⟨a10,0,none⟩),.pointer (some ⟨a11,0,none⟩),.pointer (some ⟨a12,0,none⟩),.pointer (some ⟨a13,0,none⟩),v]) 1).run prog w=.ok (.pointer (some ⟨a1,0,none⟩)) w∧(Instr.field 102 (.agg #[.pointer (some ⟨a0,0,none⟩),.pointer (some ⟨a1,0,none⟩),.pointer (some ⟨a2,0,none⟩),.pointer (some ⟨a3,0,none⟩),.pointer (some ⟨a4,0,none⟩),.pointer (some ⟨a5,0,none⟩),.pointer (some ⟨a6,0,none⟩),.pointer (some ⟨a7,0,none⟩),.pointer (some ⟨a8,0,none⟩),.pointer (some ⟨a9,0,none⟩),.pointer (some ⟨a10,0,none⟩),.pointer (some ⟨a11,0,none⟩),.pointer (some ⟨a12,0,none⟩),.pointer (some ⟨a13,0,none⟩),v]) 2).run prog w=.ok (.pointer (some ⟨a2,0,none⟩)) w∧(Instr.field 102 (.agg #[.pointer (some ⟨a0,0,none⟩),.pointer (some ⟨a1,0,none⟩),.pointer (some ⟨a2,0,none⟩),.pointer (some ⟨a3,0,none⟩),.pointer (some ⟨a4,0,none⟩),.pointer (some ⟨a5,0,none⟩),.pointer (some ⟨a6,0,none⟩),.pointer (some ⟨a7,0,none⟩),.pointer (some ⟨a8,0,none⟩),.pointer (some ⟨a9,0,none⟩),.pointer (some ⟨a10,0,none⟩),.pointer (some ⟨a11,0,none⟩),.pointer (some ⟨a12,0,none⟩),.pointer (some ⟨a13,0,none⟩),v]) 3).run prog w=.ok (.pointer (some ⟨a3,0,none⟩)) w∧(Instr.field 102 (.agg #[.pointer (some ⟨a0,0,none⟩),.pointer (some ⟨a1,0,none⟩),.pointer (some ⟨a2,0,none⟩),.pointer (some ⟨a3,0,none⟩),.pointer (some ⟨a4,0,none⟩),.pointer (some ⟨a5,0,none⟩),.pointer (some ⟨a6,0,none⟩),.pointer (some ⟨a7,0,none⟩),.pointer (some ⟨a8,0,none⟩),.pointer (some ⟨a9,0,none⟩),.pointer (some ⟨a10,0,none⟩),.pointer (some ⟨a11,0,none⟩),.pointer (some ⟨a12,0,none⟩),.pointer (some ⟨a13,0,none⟩),v]) 4).run prog w=.ok (.pointer (some ⟨a4,0,none⟩)) w∧(Instr.field 102 (.agg #[.pointer (some ⟨a0,0,none⟩),.pointer (some ⟨a1,0,none⟩),.pointer (some ⟨a2,0,none⟩),.pointer (some ⟨a3,0,none⟩),.pointer (some ⟨a4,0,none⟩),.pointer (some ⟨a5,0,none⟩),.pointer (some ⟨a6,0,none⟩),.pointer (some ⟨a7,0,none⟩),.pointer (some ⟨a8,0,none⟩),.pointer (some ⟨a9,0,none⟩),.pointer (some ⟨a10,0,none⟩),.pointer (some ⟨a11,0,none⟩),.pointer (some ⟨a12,0,none⟩),.pointer (some ⟨a13,0,none⟩),v]) 5).run prog w=.ok (.pointer (some ⟨a5,0,none⟩)) w∧(Instr.field 102 (.agg #[.pointer (some ⟨a0,0,none⟩),.pointer (some ⟨a1,0,none⟩),.pointer (some ⟨a2,0,none⟩),.pointer (some ⟨a3,0,none⟩),.pointer (some ⟨a4,0,none⟩),.pointer (some ⟨a5,0,none⟩),.pointer (some ⟨a6,0,none⟩),.pointer (some ⟨a7,0,none⟩),.pointer (some ⟨a8,0,none⟩),.pointer (some ⟨a9,0,none⟩),.pointer (some ⟨a10,0,none⟩),.pointer (some ⟨a11,0,none⟩),.pointer (some ⟨a12,0,none⟩),.pointer (some ⟨a13,0,none⟩),v]) 6).run prog w=.ok (.pointer (some ⟨a6,0,none⟩)) w∧(Instr.field 102 (.agg #[.pointer (some ⟨a0,0,none⟩),.pointer (some ⟨a1,0,none⟩),.pointer (some ⟨a2,0,none⟩),.pointer (some ⟨a3,0,none⟩),.pointer (some ⟨a4,0,none⟩),.pointer (some ⟨a5,0,none⟩),.pointer (some ⟨a6,0,none⟩),.pointer (some ⟨a7,0,none⟩),.pointer (some ⟨a8,0,none⟩),.pointer (some ⟨a9,0,none⟩),.pointer (some ⟨a10,0,none⟩),.pointer (some ⟨a11,0,none⟩),.pointer (some ⟨a12,0,none⟩),.pointer (some ⟨a13,0,none⟩),v]) 7).run prog w=.ok (.pointer (some ⟨a7,0,none⟩)) w∧(Instr.field 102 (.agg #[.pointer (some ⟨a0,0,none⟩),.pointer (some ⟨a1,0,none⟩),.pointer (some ⟨a2,0,none⟩),.pointer (some ⟨a3,0,none⟩),.pointer (some ⟨a4,0,none⟩),.pointer (some ⟨a5,0,none⟩),.pointer (some ⟨a6,0,none⟩),.pointer (some ⟨a7,0,none⟩),.pointer (some ⟨a8,0,none⟩),.pointer (some ⟨a9,0,none⟩),.pointer (some ⟨a10,0,none⟩),.pointer (some ⟨a11,0,none⟩),.pointer (some ⟨a12,0,none⟩),.pointer (some ⟨a13,0,none⟩),v]) 8).run prog w=.ok (.pointer (some ⟨a8,0,none⟩)) w∧(Instr.field 102 (.agg #[.pointer (some ⟨a0,0,none⟩),.pointer (some ⟨a1,0,none⟩),.pointer (some ⟨a2,0,none⟩),.pointer (some ⟨a3,0,none⟩),.pointer (some ⟨a4,0,none⟩),.pointer (some ⟨a5,0,none⟩),.pointer (some ⟨a6,0,none⟩),.pointer (some ⟨a7,0,none⟩),.pointer (some ⟨a8,0,none⟩),.pointer (some ⟨a9,0,none⟩),.pointer (some ⟨a10,0,none⟩),.pointer (some ⟨a11,0,none⟩),.pointer (some ⟨a12,0,none⟩),.pointer (some ⟨a13,0,none⟩),v]) 9).run prog w=.ok (.pointer (some ⟨a9,0,none⟩)) w∧(Instr.field 102 (.agg #[.pointer (some ⟨a0,0,none⟩),.pointer (some ⟨a1,0,none⟩),.pointer (some ⟨a2,0,none⟩),.pointer (some ⟨a3,0,none⟩),.pointer (some ⟨a4,0,none⟩),.pointer (some ⟨a5,0,none⟩),.pointer (some ⟨a6,0,none⟩),.pointer (some ⟨a7,0,none⟩),.pointer (some ⟨a8,0,none⟩),.pointer (some ⟨a9,0,none⟩),.pointer (some ⟨a10,0,none⟩),.pointer (some ⟨a11,0,none⟩),.pointer (some ⟨a12,0,none⟩),.pointer (some ⟨a13,0,none⟩),v]) 10).run prog w=.ok (.pointer (some ⟨a10,0,none⟩)) w∧(Instr.field 102 (.agg #[.pointer (some ⟨a0,0,none⟩),.pointer (some ⟨a1,0,none⟩),.pointer (some ⟨a2,0,none⟩),.pointer (some ⟨a3,0,none⟩),.pointer (some ⟨a4,0,none⟩),.pointer (some ⟨a5,0,none⟩),.pointer (some ⟨a6,0,none⟩),.pointer (some ⟨a7,0,none⟩),.pointer (some ⟨a8,0,none⟩),.pointer (some ⟨a9,0,none⟩),.pointer (some ⟨a10,0,none⟩),.pointer (some ⟨a11,0,none⟩),.pointer (some ⟨a12,0,none⟩),.pointer (some ⟨a13,0,none⟩),v]) 11).run prog w=.ok (.pointer (some ⟨a11,0,none⟩)) w∧(Instr.field 102 (.agg #[.pointer (some ⟨a0,0,none⟩),.pointer (some ⟨a1,0,none⟩),.pointer (some ⟨a2,0,none⟩),.pointer (some ⟨a3,0,none⟩),.pointer (some ⟨a4,0,none⟩),.pointer (some ⟨a5,0,none⟩),.pointer (some ⟨a6,0,none⟩),.pointer (some ⟨a7,0,none⟩),.pointer (some ⟨a8,0,none⟩),.pointer (some ⟨a9,0,none⟩),.pointer (some ⟨a10,0,none⟩),.pointer (some ⟨a11,0,none⟩),.pointer (some ⟨a12,0,none⟩),.pointer (some ⟨a13,0,none⟩),v]) 12).run prog w=.ok (.pointer (some ⟨a12,0,none⟩)) w∧(Instr.field 102 (.agg #[.pointer (some ⟨a0,0,none⟩),.pointer (some ⟨a1,0,none⟩),.pointer (some ⟨a2,0,none⟩),.pointer (some ⟨a3,0,none⟩),.pointer (some ⟨a4,0,none⟩),.pointer (some ⟨a5,0,none⟩),.pointer (some ⟨a6,0,none⟩),.pointer (some ⟨a7,0,none⟩),.pointer (some ⟨a8,0,none⟩),.pointer (some ⟨a9,0,none⟩),.pointer (some ⟨a10,0,none⟩),.pointer (some ⟨a11,0,none⟩),.pointer (some ⟨a12,0,none⟩),.pointer (some ⟨a13,0,none⟩),v]) 13).run prog w=.ok (.pointer (some ⟨a13,0,none⟩)) w∧(Instr.field 102 (.agg #[.pointer (some ⟨a0,0,none⟩),.pointer (some ⟨a1,0,none⟩),.pointer (some ⟨a2,0,none⟩),.pointer (some ⟨a3,0,none⟩),.pointer (some ⟨a4,0,none⟩),.pointer (some ⟨a5,0,none⟩),.pointer (some ⟨a6,0,none⟩),.pointer (some ⟨a7,0,none⟩),.pointer (some ⟨a8,0,none⟩),.pointer (some ⟨a9,0,none⟩),.pointer (some ⟨a10,0,none⟩),.pointer (some ⟨a11,0,none⟩),.pointer (some ⟨a12,0,none⟩),.pointer (some ⟨a13,0,none⟩),v]) 14).run prog w=.ok (v) w:=by refine ⟨?_,?_,?_,?_,?_,?_,?_,?_,?_,?_,?_,?_,?_,?_,?_⟩ <;> kernel_rfl
theorem KAt.k_cores (h:KAt w F p f k):Calls prog 11 #[.pointer (some ⟨p,0,none⟩)] w fun e w'=>e=.returned (.pointer (some ⟨f.pt 12,0,none⟩))∧Below w.heap.size w w':=by
 have A:=Hd h.kown
 have R:=fun w=>field102 (f.pt 0) (f.pt 1) (f.pt 2) (f.pt 3) (f.pt 4) (f.pt 5) (f.pt 6) (f.pt 7) (f.pt 8) (f.pt 9) (f.pt 10) (f.pt 11) (f.pt 12) (f.pt 13) f.gv w
 clear h
 go_enter func11,ntmps11
 go_wp2_with fail;refine A.out.mono ?_;rintro e w1 ⟨rfl,S⟩;go_wp2;go_returns
 exact ⟨rfl,S⟩
theorem KAt.k_stop (h:KAt w F p f k):Calls prog 19 #[.pointer (some ⟨p,0,none⟩)] w fun e w'=>e=.returned (.pointer (some ⟨f.pt 10,0,none⟩))∧Below w.heap.size w w':=by
 have A:=Hd h.kown
 have R:=fun w=>field102 (f.pt 0) (f.pt 1) (f.pt 2) (f.pt 3) (f.pt 4) (f.pt 5) (f.pt 6) (f.pt 7) (f.pt 8) (f.pt 9) (f.pt 10) (f.pt 11) (f.pt 12) (f.pt 13) f.gv w
 clear h
 go_enter func19,ntmps19
 go_wp2_with fail;refine A.out.mono ?_;rintro e w1 ⟨rfl,S⟩;go_wp2;go_returns
 exact ⟨rfl,S⟩
theorem KAt.k_calls (h:KAt w F p f k):Calls prog 21 #[.pointer (some ⟨p,0,none⟩)] w fun e w'=>e=.returned (.pointer (some ⟨f.pt 6,0,none⟩))∧Below w.heap.size w w':=by
 have A:=Hd h.kown
 have R:=fun w=>field102 (f.pt 0) (f.pt 1) (f.pt 2) (f.pt 3) (f.pt 4) (f.pt 5) (f.pt 6) (f.pt 7) (f.pt 8) (f.pt 9) (f.pt 10) (f.pt 11) (f.pt 12) (f.pt 13) f.gv w
 clear h
 go_enter func21,ntmps21
 go_wp2_with fail;refine A.out.mono ?_;rintro e w1 ⟨rfl,S⟩;go_wp2;go_returns
 exact ⟨rfl,S⟩
theorem KAt.k_timers (h:KAt w F p f k):Calls prog 23 #[.pointer (some ⟨p,0,none⟩)] w fun e w'=>e=.returned (.pointer (some ⟨f.pt 2,0,none⟩))∧Below w.heap.size w w':=by
 have A:=Hd h.kown
 have R:=fun w=>field102 (f.pt 0) (f.pt 1) (f.pt 2) (f.pt 3) (f.pt 4) (f.pt 5) (f.pt 6) (f.pt 7) (f.pt 8) (f.pt 9) (f.pt 10) (f.pt 11) (f.pt 12) (f.pt 13) f.gv w
 clear h
 go_enter func23,ntmps23
 go_wp2_with fail;refine A.out.mono ?_;rintro e w1 ⟨rfl,S⟩;go_wp2;go_returns
 exact ⟨rfl,S⟩
theorem KAt.k_works (h:KAt w F p f k):Calls prog 25 #[.pointer (some ⟨p,0,none⟩)] w fun e w'=>e=.returned (.pointer (some ⟨f.pt 5,0,none⟩))∧Below w.heap.size w w':=by
 have A:=Hd h.kown
 have R:=fun w=>field102 (f.pt 0) (f.pt 1) (f.pt 2) (f.pt 3) (f.pt 4) (f.pt 5) (f.pt 6) (f.pt 7) (f.pt 8) (f.pt 9) (f.pt 10) (f.pt 11) (f.pt 12) (f.pt 13) f.gv w
 clear h
 go_enter func25,ntmps25
 go_wp2_with fail;refine A.out.mono ?_;rintro e w1 ⟨rfl,S⟩;go_wp2;go_returns
 exact ⟨rfl,S⟩
theorem KAt.k_queues (h:KAt w F p f k):Calls prog 27 #[.pointer (some ⟨p,0,none⟩)] w fun e w'=>e=.returned (.pointer (some ⟨f.pt 1,0,none⟩))∧Below w.heap.size w w':=by
 have A:=Hd h.kown
 have R:=fun w=>field102 (f.pt 0) (f.pt 1) (f.pt 2) (f.pt 3) (f.pt 4) (f.pt 5) (f.pt 6) (f.pt 7) (f.pt 8) (f.pt 9) (f.pt 10) (f.pt 11) (f.pt 12) (f.pt 13) f.gv w
 clear h
 go_enter func27,ntmps27
 go_wp2_with fail;refine A.out.mono ?_;rintro e w1 ⟨rfl,S⟩;go_wp2;go_returns
 exact ⟨rfl,S⟩
theorem KAt.k_route (h:KAt w F p f k):Calls prog 29 #[.pointer (some ⟨p,0,none⟩)] w fun e w'=>e=.returned (.pointer (some ⟨f.pt 4,0,none⟩))∧Below w.heap.size w w':=by
 have A:=Hd h.kown
 have R:=fun w=>field102 (f.pt 0) (f.pt 1) (f.pt 2) (f.pt 3) (f.pt 4) (f.pt 5) (f.pt 6) (f.pt 7) (f.pt 8) (f.pt 9) (f.pt 10) (f.pt 11) (f.pt 12) (f.pt 13) f.gv w
 clear h
 go_enter func29,ntmps29
 go_wp2_with fail;refine A.out.mono ?_;rintro e w1 ⟨rfl,S⟩;go_wp2;go_returns
 exact ⟨rfl,S⟩
theorem KAt.k_irqs (h:KAt w F p f k):Calls prog 31 #[.pointer (some ⟨p,0,none⟩)] w fun e w'=>e=.returned (.pointer (some ⟨f.pt 3,0,none⟩))∧Below w.heap.size w w':=by
 have A:=Hd h.kown
 have R:=fun w=>field102 (f.pt 0) (f.pt 1) (f.pt 2) (f.pt 3) (f.pt 4) (f.pt 5) (f.pt 6) (f.pt 7) (f.pt 8) (f.pt 9) (f.pt 10) (f.pt 11) (f.pt 12) (f.pt 13) f.gv w
 clear h
 go_enter func31,ntmps31
 go_wp2_with fail;refine A.out.mono ?_;rintro e w1 ⟨rfl,S⟩;go_wp2;go_returns
 exact ⟨rfl,S⟩
theorem KAt.k_desk (h:KAt w F p f k):Calls prog 34 #[.pointer (some ⟨p,0,none⟩)] w fun e w'=>e=.returned (.pointer (some ⟨f.pt 11,0,none⟩))∧Below w.heap.size w w':=by
 have A:=Hd h.kown
 have R:=fun w=>field102 (f.pt 0) (f.pt 1) (f.pt 2) (f.pt 3) (f.pt 4) (f.pt 5) (f.pt 6) (f.pt 7) (f.pt 8) (f.pt 9) (f.pt 10) (f.pt 11) (f.pt 12) (f.pt 13) f.gv w
 clear h
 go_enter func34,ntmps34
 go_wp2_with fail;refine A.out.mono ?_;rintro e w1 ⟨rfl,S⟩;go_wp2;go_returns
 exact ⟨rfl,S⟩
section
section
variable {F : Fence} {n : Nat} {P : Program} {α : Type}
def Rows2 (d:Nat) (W W':World):Prop:=W'.heap[d]? = W.heap[d]?∧W'.heap[d+1]? = W.heap[d+1]?
def Left2 (d:Nat) (Kp:World→World→Prop) (I Ix:List α→World→Prop) (xs:List α) (W:World):Exit→Act→World→Prop
 | .normal=>fun _ W'=>Rows2 d W W'∧Kp W W'∧I xs W'
 | .ret=>fun _ W'=>Rows2 d W W'∧Ix xs W'
 | .exit _=>fun _ _=>False
 | .goto _=>fun _ _=>False
 | .panic _=>fun _ _=>False
 | .outgrown=>fun _ _=>False
def begun (w:World) (r:Loop):World:=(w.alloc (.deferred (some []))).alloc (.loop r)
theorem begun_loop (w:World) (r:Loop):(begun w r).heap[w.heap.size+1]? = some (.loop r):=by
 have:=World.alloc_heap_new (w.alloc (.deferred (some []))) (.loop r)
 rwa [World.size_alloc] at this
theorem begun_row (w:World) (r:Loop):(begun w r).heap[w.heap.size]? = some (.deferred (some [])):=(Below.heap_alloc _ _ _ (by simp)).trans (World.alloc_heap_new w _)
def marked (a:Act) (w:World):Act:={ a with defers:={ target:=.collected w.heap.size,args:=#[] }::a.defers }
theorem range_two {g:Operand} {ps:Array Tmp} {assign body:Code} {Q:Exit→Act→World→Prop} {a:Act} (hro:F.round=none) (h1:1≤n) {gf:Nat} {lb:Array Value} (hg:a.eval g=.func (.func gf) #[] lb) (hFg:F.fn gf)
  (eg:∀ args w,(callFunc gf args).run P w=.ok (.enter gf args) w) {encs:α→Array Value} (hps:∀ x,(encs x).size=ps.size) {Kp:World→World→Prop} {S Sp:List α→Prop} {N:Nat} (I Ix:List α→World→Prop)
  (hKt:∀ {A B C:World},Kp A B→Kp B C→Kp A C) (hKb:∀ (W:World) (r r':Loop),W.heap[w.heap.size+1]? = some (.loop r)→Kp W (W.putObj (w.heap.size+1) (.loop r')))
  (hI:∀ xs (W:World) (r r':Loop),I xs W→W.heap[w.heap.size+1]? = some (.loop r)→I xs (W.putObj (w.heap.size+1) (.loop r')))
  (hIx:∀ xs (W:World) (r r':Loop),Ix xs W→W.heap[w.heap.size+1]? = some (.loop r)→Ix xs (W.putObj (w.heap.size+1) (.loop r')))
  (h0:∀ r,I [] (begun w r))
  (hseq:∀ (r:Loop) (J Jx:List α→World→Prop),(∀ pre x W1,J pre W1→pre.length < N→YieldAt F (n - 1 - 1) P (w.heap.size+1) (encs x) W1 fun e W' =>
    (e=.returned (.bool true)∧J (pre++[x]) W'∧Kp W1 W')∨(e=.returned (.bool false)∧Jx (pre++[x]) W'))→J [] (begun w r) →
    CallsIn F (n - 1) P gf (#[.func (.yield (w.heap.size+1)) #[] #[]]++lb) (begun w r) fun e W'=>(∃ v,e=.returned v)∧((∃ xs,S xs∧J xs W')∨(∃ pre,Sp pre∧Jx pre W')))
  (a₁:α→Act) (hassign:∀ (x:α) (W:World) (K:Act→World→Prop),K (a₁ x) W →
   assign.wpIn (F.inRound (w.heap.size+1)) (n - 1 - 1) P (Exit.then K (fun _ _ _=>False)) { tmps:=(ps.zip (encs x)).foldl (fun t (p,v)=>t.setIfInBounds p v) a.tmps,defers:=[] } W)
  (hbody:∀ (pre:List α) (x:α) (W:World),I pre W→pre.length < N→w.heap.size+1 < W.heap.size→body.wpIn (F.inRound (w.heap.size+1)) (n - 1 - 1) P (Left2 w.heap.size Kp I Ix (pre++[x]) W) (a₁ x) W)
  (hdone:∀ xs W,S xs→I xs W→W.heap[w.heap.size]? = some (.deferred (some []))→Q .normal (marked a w) W)
  (hstop:∀ pre W,Sp pre→Ix pre W→W.heap[w.heap.size]? = some (.deferred (some []))→Code.ret.wpIn F n P Q (marked a w) W) :
  (Code.rangeFunc g ps assign body).wpIn F n P Q a w:=by
 refine wpIn_rangeFunc fun fn hfn=>?_
 rw [hro]
 obtain ⟨rec,hrec⟩:∃ rec:LoopState→Option Code→Loop,rec=fun st pe=>{ state:=st,pending:=pe,fn,tmps:=a.tmps,params:=ps,assign,body,defers:=w.heap.size }:=⟨_,rfl⟩
 refine ⟨w.heap.size+1,[{ target:=.collected w.heap.size,args:=#[] }],begun w (rec .ready none),{ target:=.fn (.func gf) lb,args:=#[.func (.yield (w.heap.size+1)) #[] #[]] },begun w (rec .ready none),gf,
  #[.func (.yield (w.heap.size + 1)) #[] #[]] ++ lb, begun w (rec .ready none), ?_, ?_, ?_, ?_, fun _ => h1, ?_⟩
 ·rw [hrec];exact run_enterLoop_outer _ _ _ _ _
 ·simp only [resolve,hg]
  simp [go_sem]
 ·intro f' hf'
  simp [Target.leads] at hf'
  subst hf'
  exact hFg
 ·simp [invoke,go_sem,eg]
 refine (hseq (rec .ready none) (fun xs W=>I xs W∧W.heap[w.heap.size+1]? = some (.loop (rec .ready none))∧W.heap[w.heap.size]? = some (.deferred (some [])))
  (fun xs W=>Ix xs W∧W.heap[w.heap.size+1]? = some (.loop (rec .done (some .ret)))∧W.heap[w.heap.size]? = some (.deferred (some []))) ?_ ⟨h0 _,begun_loop _ _,begun_row _ _⟩).mono ?_
 ·rintro pre x W ⟨hi,hl,hk⟩ hlen
  have hlt:w.heap.size+1 < W.heap.size:=(Array.getElem?_eq_some_iff.1 hl).1
  have hy:=run_yield (P:=P) (args:=encs x) hl (by rw [hrec];exact hps x)
  rw [hrec] at hy
  refine ⟨fn,_,assign,body,hy,roundIn_of_wpIn hfn (hassign x W _ ⟨_,run_beginRound hl (by rw [hrec]),?_⟩)⟩
  obtain ⟨r2,hr2⟩:∃ r2:Loop,r2={ rec .ready none with state:=.busy }:=⟨_,rfl⟩
  rw [← hr2]
  have hl2:(W.putObj (w.heap.size+1) (.loop r2)).heap[w.heap.size+1]? = some (.loop r2):=World.putObj_heap_same hlt
  have hk2:(W.putObj (w.heap.size+1) (.loop r2)).heap[w.heap.size]? = some (.deferred (some [])):=(World.putObj_heap_other (by omega)).trans hk
  refine wpIn_mono (hbody pre x _ (hI _ _ _ _ hi hl) hlen (by simpa using hlt)) ?_
  rintro e a3 W3 hp
  cases e with
  | normal =>
   obtain ⟨⟨k1,k2⟩,hkp,hi3⟩:=hp
   have hl3:=k2.trans hl2
   have he:=run_endRound (P:=P) none hl3
   rw [hr2,hrec] at he;rw [hr2] at hl3
   refine ⟨_,_,he,.inl ⟨rfl,⟨?_,?_,?_⟩,?_⟩⟩
   ·exact hI _ _ _ _ hi3 hl3
   ·rw [hrec];exact World.putObj_heap_same (Array.getElem?_eq_some_iff.1 hl3).1
   ·exact (World.putObj_heap_other (by omega)).trans (k1.trans hk2)
   ·exact hKt (hKt (hKb _ _ _ hl) hkp) (hKb _ _ _ hl3)
  | ret =>
   obtain ⟨⟨k1,k2⟩,hi3⟩:=hp
   have hl3:=k2.trans hl2
   have he:=run_endRound (P:=P) (some .ret) hl3
   rw [hr2,hrec] at he;rw [hr2] at hl3
   refine ⟨_,_,he,.inr ⟨rfl,?_,?_,?_⟩⟩
   ·exact hIx _ _ _ _ hi3 hl3
   ·rw [hrec];exact World.putObj_heap_same (Array.getElem?_eq_some_iff.1 hl3).1
   ·exact (World.putObj_heap_other (by omega)).trans (k1.trans hk2)
  | exit id=>exact hp.elim
  | goto t=>exact hp.elim
  | panic ch=>exact hp.elim
  | outgrown=>exact hp.elim
 ·rintro e W2 ⟨⟨v,rfl⟩,(⟨xs,hS,hi,hl,hk⟩ | ⟨pre,hSp,hi,hl,hk⟩)⟩
  ·refine ⟨none,_,by have:=run_endLoop (P:=P) hl (by rw [hrec];simp);rw [hrec] at this;exact this,hdone xs _ hS (hI _ _ _ _ hi hl) ((World.putObj_heap_other (by omega)).trans hk)⟩
  ·refine ⟨some .ret,_,by have:=run_endLoop (P:=P) hl (by rw [hrec];simp);rw [hrec] at this;exact this,hstop pre _ hSp (hIx _ _ _ _ hi hl) ((World.putObj_heap_other (by omega)).trans hk)⟩
end
end
section
open Go.Shelf
attribute [local go_sem] Oper.semAt_some
def downs (n k:Nat):List Nat:=(List.range k).map fun j=>n - 1 - j
theorem downs_snoc (n k:Nat):downs n (k+1)=downs n k++[n - 1 - k]:=by simp [downs,List.range_succ]
theorem downs_len (n k:Nat):(downs n k).length=k:=by simp [downs]
theorem downs_take (n k:Nat) (h:k≤n):(downs n n).take k=downs n k:=by
 unfold downs;rw [← List.map_take,List.take_range,Nat.min_eq_left h]
theorem downs_find (n k:Nat) (h:k≤n) (f:Nat→Bool) (pre:List Nat) (x:Nat) (he:pre++[x]=downs n k) (hp:∀ y∈pre,f y=false) (hx:f x=true):(downs n n).find? f=some x:=by
 rw [← List.take_append_drop k (downs n n),downs_take n k h,← he,List.append_assoc,List.find?_append,List.find?_eq_none.2 (fun y hy=>by rw [hp y hy];decide),Option.none_or,List.singleton_append,List.find?_cons_of_pos hx]
def AllDown (n:Nat) (xs:List Nat):Prop:=xs=downs n n
def SomeDown (n:Nat) (xs:List Nat):Prop:=∃ k,k≤n∧xs=downs n k
def KpBack (B g:Nat) (W W':World):Prop:=W'.heap[B]? = W.heap[B]?∧W'.heap[g]? = W.heap[g]?
theorem kpBack_t {B g:Nat} {U V W:World} (h:KpBack B g U V) (k:KpBack B g V W):KpBack B g U W:=⟨k.1.trans h.1,k.2.trans h.2⟩
def backEnc (l:List Int) (x:Nat):Array Value:=#[.int .i64 x,.int .i64 (l.getD x 0)]
theorem back_seq {F:Fence} {m:Nat} (h304:F.fn 304) (hro:F.round=none) (hm:1≤m) (W:World) (B g cap n:Nat) (base:Option Addr) (cs:Array Value) (l:List Int) (hmax:n≤9223372036854775807) (hB:Blk W B #[.slice base n cap] 65)
  (hg:0 < n→base=some ⟨g,0,none⟩∧Blk W g cs 3∧∀ j,j < n→cs[j]? = some (.int .i64 (l.getD j 0))) (lr:Nat) (J Jx:List Nat→World→Prop)
  (hY:∀ pre x W1,J pre W1→pre.length < n→YieldAt F (m - 1) prog lr (backEnc l x) W1 fun e W'=>(e=.returned (.bool true)∧J (pre++[x]) W'∧KpBack B g W1 W')∨(e=.returned (.bool false)∧Jx (pre++[x]) W')) (h0:J [] W) :
  CallsIn F m prog 304 (#[.func (.yield lr) #[] #[]]++#[.pointer (some ⟨B,0,none⟩)]) W fun e W'=>(∃ v,e=.returned v)∧((∃ xs,AllDown n xs∧J xs W')∨(∃ pre,SomeDown n pre∧Jx pre W')):=by
 refine callsIn_of_wp func304 rfl h304 ?_ hro
 simp only [ntmps304,List.size_toArray,List.length_cons,List.length_nil,Nat.reduceAdd,Nat.reduceSub,Array.replicate_succ,Array.replicate_zero,List.push_toArray,List.append_toArray,List.nil_append,List.cons_append]
 have bc:=hB.cell 0;replace hg:=Hd hg
 have hB0:Hid (W.heap[B]? = some (.cells #[.slice base n cap] 65 (0,0))):=Hd hB
 replace hY:=Hd hY
 have hn1:wrap64 ((n:Int) - 1)=(n:Int) - 1:=by unfold wrap64;omega
 replace hn1:=Hd hn1;clear hB
 gi_wp2
 gi_loopw [3] (fun iv wr=>∃ k:Nat,iv=.int .i64 ((n:Int) - 1 - (k:Int))∧k≤n∧J (downs n k) wr∧Hid (Blk wr B #[.slice base n cap] 65)∧Hid (0 < n→Blk wr g cs 3))
  (fun iv _=>(intOf iv+1).toNat)
 case atStart =>
  exact ⟨0,by simp,by omega,h0,Hd hB0.out,Hd (fun e=>(hg.out e).2.1)⟩
 case round =>
  obtain ⟨k,rfl,hk,hJs,hb,hgb⟩:=hrel
  by_cases hkn:k=n
  ·subst hkn
   have hlt:¬ (0:Int)≤(k:Int) - 1 - (k:Int):=by omega
   gi_wp2
   go_end0
   exact ⟨⟨_,rfl⟩,.inl ⟨_,rfl,hJs⟩⟩
  ·have hk8:k < n:=by omega
   obtain ⟨rfl,-,hcs⟩:=hg.out (by omega)
   have cb:=hb.out.cell 0
   have cl:=(hgb.out (by omega)).cell (n - 1 - k)
   rw [hcs (n - 1 - k) (by omega)] at cl
   have hix:((n:Int) - 1 - (k:Int))=((n - 1 - k:Nat):Int):=by omega
   obtain ⟨i,hi⟩:∃ i,i=n - 1 - k:=⟨_,rfl⟩
   rw [← hi] at cl hix;rw [hix]
   have hin:i < n:=by omega
   obtain ⟨fn,tmps,assign,body,hy,hR⟩:=hY.out (downs n k) i wr hJs (by rw [downs_len];omega)
   unfold backEnc at hy;generalize l.getD i 0=z at cl hy
   have hge:(0:Int)≤(i:Int):=by omega
   replace hix:=Hd hix;replace hi:=Hd hi;clear hcs
   gi_wp2
   refine hR.mono ?_;rintro e W3 (⟨rfl,hJ3,hk3⟩ | ⟨rfl,hJx3⟩)
   ·rw [hi.out,← downs_snoc] at hJ3
    gi_wp2
    go_roundw
    case rel=>exact ⟨k+1,by have:=hix.out;simp;omega,by omega,hJ3,Hd (hk3.1.trans hb.out),Hd (fun e=>hk3.2.trans (hgb.out e))⟩
    case measure=>have:=hix.out;simp [intOf] <;> omega
   ·rw [hi.out,← downs_snoc] at hJx3
    gi_wp2
    refine bodyPost_ret (results_none rfl _ _ _) rfl ?_
    exact ⟨⟨_,rfl⟩,.inr ⟨downs n (k+1),⟨k+1,by omega,rfl⟩,hJx3⟩⟩
end
section
section
variable {P : Program} {ops : Array Oper} {Q : Exit → Act → World → Prop} {md : Region.Mode} {l n : Nat}
def noDefer (ops:Array Oper):Bool:=ops.all fun o=>match o.op with | .defer _=>false | _=>true
theorem noDefer_at {i:Nat} {o:Oper} (h:noDefer ops=true) (ho:ops[i]? = some o) (c:Call):o.op≠.defer c:=fun e=>by
 unfold noDefer at h;rw [Array.all_eq_true] at h
 obtain ⟨hi,rfl⟩:=Array.getElem?_eq_some_iff.1 ho
 have:=h i hi
 rw [e] at this
 cases this
theorem opIn_of_op {i:Nat} {K:Act→World→Prop} {a:Act} (hd:noDefer ops=true) (hQ:¬ LetsOut Q) (h:wpOp P ops Q i K a w):wpOpIn (Fence.wide.inRound l) n P ops Q i K a w:=by
 unfold wpOp at h;unfold wpOpIn
 cases ho:ops[i]? with
 | none=>rw [ho] at h;exact h
 | some o =>
  rw [ho] at h;dsimp only at h ⊢
  split
  ·rename_i hw
   rw [if_pos hw] at h
   replace h:=h.resolve_right (fun e=>hQ e.2)
   refine ⟨fun _ _=>trivial,?_⟩
   rw [show (Fence.wide.inRound l).round=some l from rfl,Oper.semAt_some l _ _ (noDefer_at hd ho)];unfold Oper.wp at h;generalize (execOp a.eval o).run P w=r at h ⊢
   cases r with
   | ok x w' =>
    cases x with
    | value v=>exact h
    | skip=>exact h
    | defer d=>exact h
    | enter f args=>exact ⟨fun e=>Bool.noConfusion e,CallsIn.inRound l (callsIn_wide.2 h)⟩
    | row row args=>exact ⟨fun e=>Bool.noConfusion e,fun c cs _=>let ⟨v,w',r,s⟩:=h c cs;⟨v,w',r,stepsIn_wide.2 s⟩⟩
    | round _ _ _ _ _=>exact h.elim
    | _=>exact h.elim
   | halt x w' =>
    cases x with
    | panic v=>exact h
    | _=>exact h.elim
  ·rename_i hw
   rw [if_neg hw] at h
   exact ⟨fun _ _=>trivial,h⟩
theorem anyIn_of_any (hd:noDefer ops=true) (hQ:¬ LetsOut Q):∀ (fuel:Nat) (listed:Array Bool) (a:Act) (w:World),wpAny P md ops Q fuel listed a w→wpAnyIn (Fence.wide.inRound l) n P md ops Q fuel listed a w
 | 0,_,_,_,h=>h
 | fuel+1,listed,a,w,h=>⟨h.1,fun i hi=>opIn_of_op hd hQ (wpOp_mono (fun _ _ g=>anyIn_of_any hd hQ fuel _ _ _ g) (h.2 i hi))⟩
theorem region_round {S:World→Prop} {id:Nat} {a:Act} (hm:P.follows .mixedOrders=true) (hd:noDefer ops=true) (hQ:¬ LetsOut Q) (hS:S w.drew) (h:S w.drew→wpAnyH P .any ops Q S ops.size (Array.replicate ops.size false) a w.drew):(Code.region id ops true).wpIn (Fence.wide.inRound l) n P Q a w :=
 wpIn_region_any hm (anyIn_of_any hd hQ _ _ _ _ (wpAny_of_held _ _ _ _ (h hS)))
end
end
section
open Go.Proofs.YtiocbpabbjgkhaaGreatDoor.NumD
theorem back_any (w:World) (base:Option Addr) (n cap:Nat):Calls prog 249 #[.slice base n cap] w fun e w'=>e=.returned (.func (.func 304) #[] #[.pointer (some ⟨w.heap.size,0,none⟩)])∧w'=w.alloc (.cells #[.slice base n cap] 65):=by
 have hmf:∀ (fn:Fn) (first cap:Array Value) (w:World),(Instr.makeFunc fn first cap).run prog w=.ok (.func fn first cap) w:=fun _ _ _ _=>rfl
 go_enter func249,ntmps249
 go_wp2;go_returns
 exact ⟨rfl,rfl⟩
end
end Go.Proofs.YtiocbpabbjgkhaaGreatDoor
