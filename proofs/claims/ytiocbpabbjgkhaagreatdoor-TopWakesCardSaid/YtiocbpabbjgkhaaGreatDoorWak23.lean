/- Part 23 of the proof: contracts and plain laws, each under the conditions that it names. -/
import Derived.Test.YtiocbpabbjgkhaaGreatDoorWak22
import Derived.Deep.RegionHeld3
set_option maxRecDepth 100000
set_option maxHeartbeats 20000000
set_option linter.unusedVariables false
set_option linter.unusedSimpArgs false
namespace Go.Proofs.YtiocbpabbjgkhaaGreatDoor
open Go.RowKit Go.Proofs.Tryz
variable {w w' : World} {F : Nat → Prop} {p : Nat} {f : KF} {k : K}
section
open Go.Proofs.YtiocbpabbjgkhaaGreatDoor.NumD
attribute [local go_sem] Oper.semAt_some
theorem KAt.ch {F G:Nat→Prop} (h:KAt w F p f k) (hc:Ch G w w') (hd:∀ b,F b→¬ G b) (h2:¬ G 2):KAt w' F p f k:=by
 obtain ⟨c,h⟩:=h
 exact (h.ch hc hd h2).at
theorem ch_obj (W:World) (r:Nat) (o:Obj):Ch (fun b=>b=r) W (W.putObj r o):=⟨rfl,rfl,rfl,by simp,fun k _ hF=>World.putObj_heap_other hF⟩
theorem Ch.obj (h:Ch F w w') {r:Nat} (hr:w.heap.size≤r) (o:Obj):Ch F w (w'.putObj r o):=⟨h.os,h.tape,h.output,by simpa using h.size,fun b hb hF=>(World.putObj_heap_other (by omega)).trans (h.block b hb hF)⟩
theorem below_obj {n₀:Nat} {V W:World} {r:Nat} (h:Below n₀ V W) (hn:n₀≤r) (hr:n₀≤V.heap.size) (o:Obj):Below n₀ V (W.putObj r o):=h.grown (grownBy_putObj' W r o) (by have:=h.size;omega) (fun k e=>by cases e;omega)
def balFrom (k:K):Int:=(runqBest k.qs moreF k.active).1
def balTo (k:K):Int:=(runqBest k.qs fewerF k.active).1
def balOk (k:K) (x:Nat):Bool:=hasF (thGet k.th ((runqList k.qs (balFrom k)).getD x 0)).1.mask (balTo k)
def balPick (k:K):Option Nat:=(downs (runqList k.qs (balFrom k)).length (runqList k.qs (balFrom k)).length).find? (balOk k)
def balGo (k:K) (id:Int):K:={ k with th:=(thPlace k.th id (balTo k) false).1,qs:=(runqPut (runqTake k.qs id).1 (balTo k) (thGet k.th id).1.prio id).1 }
def balFew (k:K):Bool:=decide (wrap64 (runqLoad k.qs (balFrom k) - runqLoad k.qs (balTo k)) < 2)
def kBalance (k:K):K × Int:=if balFew k then (k,0) else match balPick k with | none=>(k,0) | some x=>(balGo k ((runqList k.qs (balFrom k)).getD x 0),(runqList k.qs (balFrom k)).getD x 0)
theorem KAt.kbalance (h:KAt w F p f k):Calls prog 172 #[.pointer (some ⟨p,0,none⟩)] w fun e w'=>e=.returned (.int .i64 (kBalance k).2)∧KS w w' F p f (kBalance k).1:=by
 have H0:=Hd h;have HK:=Hd h;have HL:=Hd (Lk.refl w F);clear h;have hac:=Hd HK.out.ac
 have A1:=fun (w':World) (h:KAt w' F p f k)=>h.krbusy k.active hac.out
 have A2:=fun (w':World) (h:KAt w' F p f k)=>h.kridle k.active hac.out
 obtain ⟨fr,hfr⟩:∃ x,x=runqBest k.qs moreF k.active:=⟨_,rfl⟩
 obtain ⟨ti,hto⟩:∃ x,x=runqBest k.qs fewerF k.active:=⟨_,rfl⟩
 rw [← hfr] at A1;rw [← hto] at A2
 have hf:balFrom k=fr.1:=by rw [hfr];rfl
 have ht:balTo k=ti.1:=by rw [hto];rfl
 replace hfr:=Hd hfr;replace hto:=Hd hto;obtain ⟨fr,fr2⟩:=fr;obtain ⟨ti,ti2⟩:=ti;dsimp only at A1 A2 hf ht;replace A1:=Hd A1;replace A2:=Hd A2
 have A3:=fun (w':World) (h:KAt w' F p f k)=>h.krload fr
 have A4:=fun (w':World) (h:KAt w' F p f k)=>h.krload ti
 obtain ⟨lf,hlf⟩:∃ x,x=runqLoad k.qs fr:=⟨_,rfl⟩
 obtain ⟨lt,hlt⟩:∃ x,x=runqLoad k.qs ti:=⟨_,rfl⟩
 rw [← hlf] at A3;rw [← hlt] at A4;replace A3:=Hd A3;replace A4:=Hd A4
 have hfew:balFew k=decide (wrap64 (lf - lt) < 2):=by unfold balFew;rw [hf,ht,hlf,hlt]
 replace hfew:=Hd hfew;replace hf:=Hd hf;replace ht:=Hd ht;replace hlf:=Hd hlf;replace hlt:=Hd hlt
 have HX:=HK.out.bx HL.out #[.pointer (some ⟨p,0,none⟩)] 23
 clear HL HK;obtain ⟨HA,HK,HL⟩:=HX;have HR:=Hd (Bx.new HK.out #[.int .i64 0] 3)
 replace HA:=Hd (HA.out.alloc (.cells #[.int .i64 0] 3))
 replace HL:=Hd (HL.out.alloc (.cells #[.int .i64 0] 3))
 replace HK:=Hd (HK.out.alloc (.cells #[.int .i64 0] 3))
 have hs:(w.alloc (.cells #[.pointer (some ⟨p,0,none⟩)] 23)).heap.size=w.heap.size+1:=by simp
 rw [hs] at HR
 obtain ⟨W,hW⟩:∃ W,W=(w.alloc (.cells #[.pointer (some ⟨p,0,none⟩)] 23)).alloc (.cells #[.int .i64 0] 3):=⟨_,rfl⟩
 rw [← hW] at HA HR HK HL;replace hW:=Hd hW
 have a0:=fun x:Aft W=>keepcell x.h (HA.out.cell 0)
 have c1:=fun x:Aft W=>(HK.out.below x.h).h1
 have c17:=fun x:Aft W=>(HK.out.below x.h).hac
 have B1:=fun x:Aft W=>Hd (A1.out x.w (HK.out.below x.h))
 refine (callsIn_wide (n:=3)).1 (callsIn_of_wp_marks func172 rfl trivial ((wpIn_wide (n:=3)).2 ?_) rfl)
 simp only [ntmps172,List.size_toArray,List.length_cons,List.length_nil,Nat.reduceAdd,Nat.reduceSub,Array.replicate_succ,Array.replicate_zero,List.push_toArray,List.append_toArray,List.nil_append,List.cons_append]
 go_upto_region 1 with fail
 rw [← hW.out]
 refine wp_region_aft ?_ ?_ ?_;(kernel_rfl);(kernel_rfl);(repeat (go_big_quiet_step ((go_at_call 247;exact quiet_aft (B1 _).out))));refine wpQuiet_nil ?_;rintro _ ⟨nx,rfl⟩
 clear a0 c1 c17 B1
 replace HA:=Hd (HA.out.lk (Lk.of_below nx.h))
 replace HR:=Hd (HR.out.lk (Lk.of_below nx.h))
 replace HL:=Hd (HL.out.below nx.h);replace HK:=Hd (HK.out.below nx.h)
 obtain ⟨W1,hW1⟩:∃ W1,W1=nx.w:=⟨_,rfl⟩
 rw [← hW1] at HA HR HK HL ⊢;clear hW1 nx
 have hAlt:w.heap.size < W1.heap.size:=HA.out.blk.lt
 have KW:=Hd (HK.out.drewN 1);have ZX:=Hd (Bx.new HK.out #[.int .i64 0] 3)
 have KZ:=Hd (HK.out.alloc (.cells #[.int .i64 0] 3))
 have a0:=HA.out.cell 0;have c1:=HK.out.h1;have c17:=HK.out.hac
 go_upto_region 2 with fail
 go_cut [5,6] from 11 to 36 (fun s5 s6 wx=>∃ b,s5=.pointer (some ⟨b,0,none⟩)∧s6=.int .i64 ti2∧Hid (KAt wx F p f k)∧Hid (Lk w F wx F)∧Hid (Bx wx F w.heap.size #[.pointer (some ⟨p,0,none⟩)] 23)∧Hid (Bx wx F (w.heap.size+1) #[.int .i64 0] 3)∧Hid (Bx wx F b #[.int .i64 ti] 3))
 case first =>
  have hold:∀ w',Below W1.heap.size W1 w'→(w'.cell? ⟨w.heap.size,0,none⟩=some (.pointer (some ⟨p,0,none⟩))∧w'.cell? ⟨p,1,none⟩=some (.pointer (some ⟨f.pt 1,0,none⟩))∧w'.cell? ⟨p,17,none⟩=some (.int .u64 k.active))∧Below W1.heap.size W1 w':=fun w' hb=>⟨⟨keepcell hb a0,keepcell hb c1,keepcell hb c17⟩,hb⟩
  refine wp_region_noPanic ?_
  refine wp_region_held_drew (S:=fun w'=>(w'.cell? ⟨w.heap.size,0,none⟩=some (.pointer (some ⟨p,0,none⟩))∧w'.cell? ⟨p,1,none⟩=some (.pointer (some ⟨f.pt 1,0,none⟩))∧w'.cell? ⟨p,17,none⟩=some (.int .u64 k.active))∧Below W1.heap.size W1 w') (by kernel_rfl) (hold _ (Below.refl _ _).drew) (fun hHeld=>?_)
  replace hold:=Hd hold
  refine wpAnyH_take (i:=0) (oi:=?_) (v:=?_) ?_ (by kernel_rfl) (by kernel_rfl) (by kernel_rfl) ?_ (Or.inl ⟨?_,?_⟩) hHeld ?_
  rotate_left 2
  ·simp only [sD,sE,sF];rfl
  ·exact fun _ _ _ h=>h
  ·rfl
  ·intro w' hSw;(try dsimp only at hSw);go_simp;(try with_reducible rfl)
  (try simp only [Act.put,sA,sB,sC])
  refine wpAnyH_take (i:=1) (oi:=?_) (v:=?_) ?_ (by kernel_rfl) (by kernel_rfl) (by kernel_rfl) ?_ (Or.inl ⟨?_,?_⟩) hHeld ?_
  rotate_left 2
  ·simp only [sD,sE,sF];rfl
  ·exact fun _ _ _ h=>h
  ·rfl
  ·intro w' hSw;(try dsimp only at hSw);go_simp;(try with_reducible rfl)
  (try simp only [Act.put,sA,sB,sC])
  refine wpAnyH_take (i:=2) (oi:=?_) (v:=?_) ?_ (by kernel_rfl) (by kernel_rfl) (by kernel_rfl) ?_ (Or.inl ⟨?_,?_⟩) hHeld ?_
  rotate_left 2
  ·simp only [sD,sE,sF];rfl
  ·exact fun _ _ _ h=>h
  ·rfl
  ·intro w' hSw;(try dsimp only at hSw);go_simp;(try with_reducible rfl)
  (try simp only [Act.put,sA,sB,sC])
  refine wpAnyH_take (i:=3) (oi:=?_) (v:=?_) ?_ (by kernel_rfl) (by kernel_rfl) (by kernel_rfl) ?_ (Or.inl ⟨?_,?_⟩) hHeld ?_
  rotate_left 2
  ·simp only [sD,sE,sF];rfl
  ·exact fun _ _ _ h=>h
  ·rfl
  ·intro w' hSw;(try dsimp only at hSw);go_simp;(try with_reducible rfl)
  (try simp only [Act.put,sA,sB,sC])
  refine wpAnyH_take (i:=4) (oi:=?_) (v:=?_) ?_ (by kernel_rfl) (by kernel_rfl) (by kernel_rfl) ?_ (Or.inl ⟨?_,?_⟩) hHeld ?_
  rotate_left 2
  ·simp only [sD,sE,sF];rfl
  ·exact fun _ _ _ h=>h
  ·rfl
  ·intro w' hSw;(try dsimp only at hSw);go_simp;(try with_reducible rfl)
  (try simp only [Act.put,sA,sB,sC])
  refine wpAnyH_take (i:=5) (oi:=?_) (v:=?_) ?_ (by kernel_rfl) (by kernel_rfl) (by kernel_rfl) ?_ (Or.inl ⟨?_,?_⟩) hHeld ?_
  rotate_left 2
  ·simp only [sD,sE,sF];rfl
  ·exact fun _ _ _ h=>h
  ·rfl
  ·intro w' hSw;(try dsimp only at hSw);go_simp;(try with_reducible rfl)
  (try simp only [Act.put,sA,sB,sC])
  refine wpAnyH_take (i:=6) (oi:=?_) (v:=?_) ?_ (by kernel_rfl) (by kernel_rfl) (by kernel_rfl) ?_ (Or.inl ⟨?_,?_⟩) hHeld ?_
  rotate_left 2
  ·simp only [sD,sE,sF];rfl
  ·exact fun _ _ _ h=>h
  ·rfl
  ·intro w' hSw;(try dsimp only at hSw);go_simp;(try with_reducible rfl)
  (try simp only [Act.put,sA,sB,sC])
  refine wpAnyH_take (i:=7) (oi:=?_) (v:=?_) ?_ (by kernel_rfl) (by kernel_rfl) (by kernel_rfl) ?_ (Or.inl ⟨?_,?_⟩) hHeld ?_
  rotate_left 2
  ·simp only [sD,sE,sF];rfl
  ·exact fun _ _ _ h=>h
  ·rfl
  ·intro w' hSw;(try dsimp only at hSw);go_simp;(try with_reducible rfl)
  (try simp only [Act.put,sA,sB,sC])
  refine wpAnyH_take (i:=8) (oi:=?_) (v:=?_) ?_ (by kernel_rfl) (by kernel_rfl) (by kernel_rfl) ?_ (Or.inl ⟨?_,?_⟩) hHeld ?_
  rotate_left 2
  ·simp only [sD,sE,sF];rfl
  ·exact fun _ _ _ h=>h
  ·rfl
  ·intro w' hSw;(try dsimp only at hSw);go_simp;(try with_reducible rfl)
  (try simp only [Act.put,sA,sB,sC])
  refine wpAnyH_ready (rs:=[9,13]) (by kernel_rfl) (by simp) ?_
  refine AllReadyH.cons (o:=?_) ?_ (fun K hK=>?_) (AllReadyH.cons (o:=?_) ?_ (fun K hK=>?_) AllReadyH.nil)
  rotate_left 1
  ·simp only [List.getElem?_toArray,List.getElem?_cons_zero,List.getElem?_cons_succ];rfl
  rotate_left 2
  ·simp only [List.getElem?_toArray,List.getElem?_cons_zero,List.getElem?_cons_succ];rfl
  ·go_simp
   have hz:Below W1.heap.size W1 (W1.alloc (.cells #[.int .i64 0] 3)).drew:=((Below.refl _ _).alloc (Nat.le_refl _) _).drew
   replace hz:=Hd hz
   have hHeld:=hold.out _ hz.out
   refine hK.out _ _ hHeld (fun hHeld=>?_)
   clear hK K
   (try simp only [Act.put,List.setIfInBounds_toArray,List.set_cons_zero,List.set_cons_succ])
   refine wpAnyH_ready (rs:=[9]) (by kernel_rfl) (by simp) ?_
   refine AllReadyH.cons (o:=?_) ?_ (fun K hK=>?_) AllReadyH.nil
   rotate_left 1
   ·simp only [sD,sE,sF];rfl
   go_simp
   (refine (A2.out _ (KZ.out.drewN 1)).mono ?_;rintro e w1 ⟨rfl,S⟩;have hb:Below W1.heap.size W1 w1:=hz.out.trans (S.mono hz.out.size);have hHeld:=hold.out _ hb;have Z:=Hd ((ZX.out.drewN 1).lk (Lk.of_below S));replace hb:=Hd hb)
   refine hK.out _ _ hHeld (fun hHeld=>?_)
   clear hK K
   (try simp only [Act.put,sA,sB,sC])
   refine wpAnyH_take (i:=10) (oi:=?_) (v:=?_) ?_ (by kernel_rfl) (by kernel_rfl) (by kernel_rfl) ?_ (Or.inl ⟨?_,?_⟩) hHeld ?_
   rotate_left 2
   ·simp only [sD,sE,sF];rfl
   ·exact fun _ _ _ h=>h
   ·rfl
   ·intro w' hSw;(try dsimp only at hSw);go_simp;(try with_reducible rfl)
   (try simp only [Act.put,sA,sB,sC])
   refine wpAnyH_take (i:=11) (oi:=?_) (v:=?_) ?_ (by kernel_rfl) (by kernel_rfl) (by kernel_rfl) ?_ (Or.inl ⟨?_,?_⟩) hHeld ?_
   rotate_left 2
   ·simp only [sD,sE,sF];rfl
   ·exact fun _ _ _ h=>h
   ·rfl
   ·intro w' hSw;(try dsimp only at hSw);go_simp;(try with_reducible rfl)
   (try simp only [Act.put,sA,sB,sC])
   refine wpAnyH_take (i:=12) (oi:=?_) (v:=?_) ?_ (by kernel_rfl) (by kernel_rfl) (by kernel_rfl) ?_ (Or.inl ⟨?_,?_⟩) hHeld ?_
   rotate_left 2
   ·simp only [sD,sE,sF];rfl
   ·exact fun _ _ _ h=>h
   ·rfl
   ·intro w' hSw;(try dsimp only at hSw);go_simp;(try with_reducible rfl)
   (try simp only [Act.put,sA,sB,sC])
   have y0:w1.cell? ⟨W1.heap.size,0,none⟩=some (.int .i64 0):=Z.out.cell 0
   have f0:w1.frozen? ⟨W1.heap.size,0,none⟩=false:=Z.out.blk.frozen 0
   have hb6:=Hd (hb.out.setCell (p:=⟨W1.heap.size,0,none⟩) (Nat.le_refl _) (.int .i64 ti))
   have hX:Blk _ W1.heap.size #[.int .i64 ti] 3:=Z.out.blk.set 0 (.int .i64 ti)
   replace hX:=Hd hX
   have hHeld6:=hold.out _ hb6.out
   refine wpAnyH_ready (rs:=[14]) (by kernel_rfl) (by simp) ?_
   refine AllReadyH.cons (o:=?_) ?_ (fun K hK=>?_) AllReadyH.nil
   rotate_left 1
   ·simp only [sD,sE,sF];rfl
   go_simp
   refine hK.out _ _ hHeld6 (fun hHeld=>?_)
   clear hK K
   (try simp only [Act.put,sA,sB,sC])
   clear y0 f0
   refine wpAnyH_ready (rs:=[15]) (by kernel_rfl) (by simp) ?_
   refine AllReadyH.cons (o:=?_) ?_ (fun K hK=>?_) AllReadyH.nil
   rotate_left 1
   ·simp only [sD,sE,sF];rfl
   go_simp
   refine hK.out _ _ hHeld6 (fun hHeld=>?_)
   clear hK K
   (try simp only [Act.put,sA,sB,sC])
   refine wpAnyH_done (by kernel_rfl) (NoPanic.normal ?_) _
   go_wp2_with fail
   go_meet
   exact ⟨_,rfl,rfl,Hd (HK.out.below hb6.out),Hd (HL.out.below hb6.out),Hd (HA.out.lk (Lk.of_below hb6.out)),Hd (HR.out.lk (Lk.of_below hb6.out)),Hd ⟨hX.out,Z.out.off⟩⟩
  ·go_simp
   refine (A2.out _ KW.out).mono ?_;rintro e w1 ⟨rfl,S⟩
   have hb:Below W1.heap.size W1 w1:=(belowN W1 1).trans (S.mono (by simp))
   have hHeld:=hold.out _ hb
   refine hK.out _ _ hHeld (fun hHeld=>?_)
   clear hK K
   (try simp only [Act.put,List.setIfInBounds_toArray,List.set_cons_zero,List.set_cons_succ])
   have KX:=Hd (HK.out.below hb);have HX:=Hd (Bx.new KX.out #[.int .i64 ti] 3)
   have hbx:=hb.alloc hb.size (.cells #[.int .i64 ti] 3)
   have hbz:=hb.alloc hb.size (.cells #[.int .i64 0] 3)
   have hHeldx:=hold.out _ hbx
   have hHeldz:=hold.out _ hbz
   replace hb:=Hd hb;replace hbx:=Hd hbx;replace hbz:=Hd hbz;replace S:=Hd S
   refine wpAnyH_take (i:=10) (oi:=?_) (v:=?_) ?_ (by kernel_rfl) (by kernel_rfl) (by kernel_rfl) ?_ (Or.inl ⟨?_,?_⟩) hHeld ?_
   rotate_left 2
   ·simp only [sD,sE,sF];rfl
   ·exact fun _ _ _ h=>h
   ·rfl
   ·intro w' hSw;(try dsimp only at hSw);go_simp;(try with_reducible rfl)
   (try simp only [Act.put,sA,sB,sC])
   refine wpAnyH_take (i:=11) (oi:=?_) (v:=?_) ?_ (by kernel_rfl) (by kernel_rfl) (by kernel_rfl) ?_ (Or.inl ⟨?_,?_⟩) hHeld ?_
   rotate_left 2
   ·simp only [sD,sE,sF];rfl
   ·exact fun _ _ _ h=>h
   ·rfl
   ·intro w' hSw;(try dsimp only at hSw);go_simp;(try with_reducible rfl)
   (try simp only [Act.put,sA,sB,sC])
   refine wpAnyH_take (i:=12) (oi:=?_) (v:=?_) ?_ (by kernel_rfl) (by kernel_rfl) (by kernel_rfl) ?_ (Or.inl ⟨?_,?_⟩) hHeld ?_
   rotate_left 2
   ·simp only [sD,sE,sF];rfl
   ·exact fun _ _ _ h=>h
   ·rfl
   ·intro w' hSw;(try dsimp only at hSw);go_simp;(try with_reducible rfl)
   (try simp only [Act.put,sA,sB,sC])
   refine wpAnyH_ready (rs:=[13]) (by kernel_rfl) (by simp) ?_
   refine AllReadyH.cons (o:=?_) ?_ (fun K hK=>?_) AllReadyH.nil
   rotate_left 1
   ·simp only [sD,sE,sF];rfl
   go_simp
   refine hK.out _ _ hHeldz (fun hHeld=>?_)
   clear hK K
   (try simp only [Act.put,sA,sB,sC])
   refine wpAnyH_ready (rs:=[14]) (by kernel_rfl) (by simp) ?_
   refine AllReadyH.cons (o:=?_) ?_ (fun K hK=>?_) AllReadyH.nil
   rotate_left 1
   ·simp only [sD,sE,sF];rfl
   go_simp
   refine hK.out _ _ hHeldx (fun hHeld=>?_)
   clear hK K
   (try simp only [Act.put,sA,sB,sC])
   refine wpAnyH_ready (rs:=[15]) (by kernel_rfl) (by simp) ?_
   refine AllReadyH.cons (o:=?_) ?_ (fun K hK=>?_) AllReadyH.nil
   rotate_left 1
   ·simp only [sD,sE,sF];rfl
   go_simp
   refine hK.out _ _ hHeldx (fun hHeld=>?_)
   clear hK K
   (try simp only [Act.put,sA,sB,sC])
   refine wpAnyH_done (by kernel_rfl) (NoPanic.normal ?_) _
   go_wp2_with fail
   go_meet
   exact ⟨_,rfl,rfl,Hd (HK.out.below hbx.out),Hd (HL.out.below hbx.out),Hd (HA.out.lk (Lk.of_below hbx.out)),Hd (HR.out.lk (Lk.of_below hbx.out)),HX⟩
 case rest =>
  obtain ⟨b5,rfl,rfl,HK2,HL2,HA2,HR2,HT⟩:=hcut;clear HK HL HA HR KW ZX KZ A1 A2 a0 c1 c17 hAlt;have HK:=HK2;have HL:=HL2;have HA:=HA2;have HR:=HR2;clear HK2 HL2 HA2 HR2
  have a0:=fun x:Aft wc=>keepcell x.h (HA.out.cell 0)
  have t0:=fun x:Aft wc=>keepcell x.h (HT.out.cell 0)
  have c1:=fun x:Aft wc=>(HK.out.below x.h).h1
  have B3:=fun x:Aft wc=>Hd (A3.out x.w (HK.out.below x.h))
  have B4:=fun x:Aft wc=>Hd (A4.out x.w (HK.out.below x.h))
  go_upto_region 3 with fail
  refine wp_region_aft ?_ ?_ ?_;(kernel_rfl);(kernel_rfl);(repeat (go_big_quiet_step ((go_at_call 28;first | with_reducible exact quiet_aft0 (B3 _).out | with_reducible exact quiet_aft0 (B4 _).out))));refine wpQuiet_nil ?_;rintro _ ⟨nx,rfl⟩
  clear a0 t0 c1 B3 B4 A3 A4
  replace HA:=Hd (HA.out.lk (Lk.of_below nx.h))
  replace HR:=Hd (HR.out.lk (Lk.of_below nx.h))
  replace HT:=Hd (HT.out.lk (Lk.of_below nx.h))
  replace HL:=Hd (HL.out.below nx.h);replace HK:=Hd (HK.out.below nx.h)
  obtain ⟨W3,hW3⟩:∃ W3,W3=nx.w:=⟨_,rfl⟩
  rw [← hW3] at HA HR HT HK HL ⊢;clear hW3 nx
  have hbits:∀ b,decide (wrap64 (lf - lt) < 2)=b→balFew k=b:=fun b e=>hfew.out.trans e
  by_cases hlt2:wrap64 (lf - lt) < 2
  ·have E:kBalance k=(k,0):=by unfold kBalance;rw [hbits true (by simpa using hlt2),if_pos rfl]
   have r0:=HR.out.cell 0;have fr0:=HR.out.blk.frozen 0
   have hc:Ch (fun b=>b=w.heap.size+1) W3 (W3.setCell ⟨w.heap.size+1,0,none⟩ (.int .i64 0)):=(Ch.refl (fun b=>b=w.heap.size+1) W3).setCell (p:=⟨w.heap.size+1,0,none⟩) (fun _=>rfl) _
   have y0:(W3.setCell ⟨w.heap.size+1,0,none⟩ (.int .i64 0)).cell? ⟨w.heap.size+1,0,none⟩=some (.int .i64 0):=HR.out.blk.self 0 _ (by decide)
   go_wp2;rw [E]
   refine ⟨.int .i64 0,by simp [results,f172,go_sem,y0],rfl,?_⟩
   have hL:Lk w F (W3.setCell ⟨w.heap.size+1,0,none⟩ (.int .i64 0)) F:=⟨HL.out.1.setCell (p:=⟨w.heap.size+1,0,none⟩) (fun h=>absurd h (by simp)) _,fun b hb=>.inl hb⟩
   have h2:=H0.out.tab.two
   exact (HK.out.ch hc (fun b hb e=>HR.out.off (e ▸ hb)) (fun e=>by have e:2=w.heap.size+1:=e;omega)).close hL H0.out
  ·have hfalse:=Hd (hbits false (by simpa using hlt2))
   have P:=HK.out.krlist fr
   have HN:=HK;have c1:=HK.out.h1;have a0:=HA.out.cell 0
   obtain ⟨l,hl⟩:∃ l,l=runqList k.qs fr:=⟨_,rfl⟩
   rw [← hl] at P;replace hl:=Hd hl;replace P:=Hd P;clear hbits;go_wp2_with fail;refine P.out.mono ?_;rintro e w1 ⟨⟨v,rfl,hv⟩,S⟩
   obtain ⟨base,cap,g0,cs,rfl,hm,hb⟩:=ints_bx HN.out hv
   clear hv P HN c1 a0;unfold maxLen at hm
   replace HA:=Hd (HA.out.lk (Lk.of_below S))
   replace HR:=Hd (HR.out.lk (Lk.of_below S))
   replace HT:=Hd (HT.out.lk (Lk.of_below S))
   replace HL:=Hd (HL.out.below S);replace HK:=Hd (HK.out.below S);clear S
   obtain ⟨n,hn⟩:∃ n,n=l.length:=⟨_,rfl⟩
   rw [← hn] at hb hm ⊢;replace hb:=Hd hb;replace hn:=Hd hn
   go_wp2_with (go_at_call 249;refine (back_any _ _ _ _).mono ?_;rintro e w2 ⟨rfl,rfl⟩)
   obtain ⟨V,hV⟩:∃ V,V=w1.alloc (.cells #[.slice base n cap] 65):=⟨_,rfl⟩
   have BB:Hid (Blk V w1.heap.size #[.slice base n cap] 65):=Hd (by rw [hV];exact Blk.new _ _ _)
   have gB:∃ g,g < V.heap.size∧(0 < n→base=some ⟨g,0,none⟩∧Blk V g cs 3∧∀ j,j < n→cs[j]? = some (.int .i64 (l.getD j 0))):=by
    by_cases h0:0 < n
    ·obtain ⟨e1,e2,e3⟩:=hb.out h0
     have e4:Blk V g0 cs 3:=by rw [hV];exact e2.blk.alloc _
     exact ⟨g0,e4.lt,fun _=>⟨e1,e4,e3⟩⟩
    ·exact ⟨w1.heap.size,BB.out.lt,fun e=>absurd e h0⟩
   obtain ⟨g,hgl,gB⟩:=gB;replace gB:=Hd gB
   have HK:=Hd (HK.out.alloc (.cells #[.slice base n cap] 65))
   have HL:=Hd (HL.out.alloc (.cells #[.slice base n cap] 65))
   have HA:=Hd (HA.out.alloc (.cells #[.slice base n cap] 65))
   have HR:=Hd (HR.out.alloc (.cells #[.slice base n cap] 65))
   have HT:=Hd (HT.out.alloc (.cells #[.slice base n cap] 65))
   rw [← hV] at HK HL HA HR HT ⊢;replace hV:=Hd hV;have hBl:=BB.out.lt;have hRl:=HR.out.blk.lt
   refine (wpIn_wide (n:=3)).1 (range_two (F:=Fence.wide) (n:=3) (P:=prog) (ps:=#[61,62]) rfl (by omega) (gf:=304) (lb:=#[.pointer (some ⟨w1.heap.size,0,none⟩)]) rfl trivial (enters_of func304 (by kernel_rfl) rfl) (encs:=backEnc l) (fun _=>rfl) (Kp:=KpBack w1.heap.size g) (S:=AllDown n) (Sp:=SomeDown n) (N:=n)
    (fun pre W=>(∀ y∈pre,balOk k y=false)∧Below V.heap.size V W)
    (fun pre W=>∃ pre' x W1,pre=pre'++[x]∧(∀ y∈pre',balOk k y=false)∧balOk k x=true∧Below V.heap.size V W1∧V.heap.size+1 < W1.heap.size∧KAt W (Plus W1 W F) p f (balGo k (l.getD x 0))∧Ch (fun b=>F b∨b=w.heap.size+1∨b=V.heap.size+1) W1 W∧W.cell? ⟨w.heap.size+1,0,none⟩=some (.int .i64 (l.getD x 0)))
    (fun h h'=>kpBack_t h h') ?kb ?hI ?hIx ?h0 ?seq ?a1 ?assign ?body ?done ?stop)
   case kb=>exact fun W r r' _=>⟨World.putObj_heap_other (by omega),World.putObj_heap_other (by omega)⟩
   case hI=>exact fun xs W r r' h _=>⟨h.1,below_obj h.2 (by omega) (Nat.le_refl _) _⟩
   case hIx =>
    rintro xs W r r' ⟨pre',x,W1,e1,e2,e3,e4,e5,e6,e7,e8⟩ hr
    have hlt:=(Array.getElem?_eq_some_iff.1 hr).1
    have hc:=ch_obj W (V.heap.size+1) (.loop r')
    have hsz:(W.putObj (V.heap.size+1) (.loop r')).heap.size=W.heap.size:=by simp
    have hne:∀ b,Plus W1 W F b→b≠V.heap.size+1:=fun b hb e=>hb.elim (fun h=>by have:=HK.out.ltF b h;omega) (fun h=>by omega)
    refine ⟨pre',x,W1,e1,e2,e3,e4,e5,?_,?_,?_⟩
    ·have:=e6.ch hc hne (fun e=>by have:=H0.out.tab.two;have e:2=V.heap.size+1:=e;omega)
     unfold Plus at this ⊢
     rw [hsz]
     exact this
    ·exact ⟨e7.os,e7.tape,e7.output,by rw [hsz];exact e7.size,fun b hb hF=>(World.putObj_heap_other (fun e=>hF (.inr (.inr e)))).trans (e7.block b hb hF)⟩
    ·rw [show (W.putObj (V.heap.size+1) (.loop r')).cell? ⟨w.heap.size+1,0,none⟩=W.cell? ⟨w.heap.size+1,0,none⟩ from hc.cell (by omega) (by omega)]
     exact e8
   case h0=>exact fun r=>⟨(fun y hy=>by cases hy),((Below.refl _ _).alloc (Nat.le_refl _) _).alloc (by simp) _⟩
   case seq =>
    intro r J Jx hY h0
    exact back_seq (F:=Fence.wide) (m:=2) trivial rfl (by omega) (begun V r) w1.heap.size g cap n base cs l (by omega) ((BB.out.alloc _).alloc _) (fun e=>⟨(gB.out e).1,((gB.out e).2.1.alloc _).alloc _,(gB.out e).2.2⟩) _ J Jx hY h0
   case assign =>
    intro x W K hK
    unfold backEnc
    simp only [List.zip_toArray,List.zip_cons_cons,List.zip_nil_left,List.zip_nil_right,List.foldl_toArray',List.foldl_toArray,List.size_toArray,List.length_cons,List.length_nil,List.foldl_cons,List.foldl_nil,List.setIfInBounds_toArray,List.set_cons_succ,List.set_cons_zero]
    gi_wp2
    exact hK
   case body =>
    rintro pre x W ⟨hp,hW⟩ hlen hsz;have KB:=Hd (HK.out.below hW)
    have LB:=Lk.of_below (F:=F) hW
    have AB:=Hd (HA.out.lk LB);have RB:=Hd (HR.out.lk LB);have TB:=Hd (HT.out.lk LB)
    have hbal:balOk k x=hasF (thGet k.th (l.getD x 0)).1.mask ti:=by unfold balOk;rw [hf.out,ht.out,← hl.out]
    obtain ⟨z,hz⟩:∃ z,z=l.getD x 0:=⟨_,rfl⟩
    rw [← hz] at hbal
    have A:=KB.out.ktget z
    have hm:=Hd (KB.out.th_mask z)
    obtain ⟨y,hy⟩:∃ y,y=(thGet k.th z).1:=⟨_,rfl⟩
    rw [← hy] at A hbal hm;obtain ⟨prio,mask,cpu,forced,sleeps,timer⟩:=y
    dsimp only [thCells] at A hbal hm
    rw [← hz];have a0:=AB.out.cell 0;have c0:=KB.out.h0
    have hxl:V.heap.size≤W.heap.size:=hW.size
    replace hy:=Hd hy;replace hz:=Hd hz;replace A:=Hd A
    have M:=fun w=>has_any mask hm.out ti w
    rw [← hbal] at M
    gi_wp2_with fail
    refine ⟨trivial,(CallsIn.inRound _ (callsIn_wide.2 A.out)).mono ?_⟩
    rintro e w2 ⟨rfl,S⟩
    have t0:=fun o=>((TB.out.lk (Lk.of_below S)).alloc o).cell 0
    gi_wp2_with fail
    clear A t0
    have LC:=Lk.of_below (F:=F) S
    have KC:=Hd (KB.out.below S);have HX:=Hd (Bx.new KC.out #[.int .i64 prio,.int .u64 mask,.int .i64 cpu,.bool forced,.bool sleeps,.int .i64 timer] 79)
    have KX:=Hd (KC.out.alloc (.cells #[.int .i64 prio,.int .u64 mask,.int .i64 cpu,.bool forced,.bool sleeps,.int .i64 timer] 79))
    have AX:=Hd ((AB.out.lk LC).alloc (.cells #[.int .i64 prio,.int .u64 mask,.int .i64 cpu,.bool forced,.bool sleeps,.int .i64 timer] 79))
    have RX:=Hd ((RB.out.lk LC).alloc (.cells #[.int .i64 prio,.int .u64 mask,.int .i64 cpu,.bool forced,.bool sleeps,.int .i64 timer] 79))
    have TX:=Hd ((TB.out.lk LC).alloc (.cells #[.int .i64 prio,.int .u64 mask,.int .i64 cpu,.bool forced,.bool sleeps,.int .i64 timer] 79))
    have SX:Below W.heap.size W (w2.alloc (.cells #[.int .i64 prio,.int .u64 mask,.int .i64 cpu,.bool forced,.bool sleeps,.int .i64 timer] 79)):=S.alloc S.size _
    obtain ⟨w3,hw3⟩:∃ w3,w3=w2.alloc (.cells #[.int .i64 prio,.int .u64 mask,.int .i64 cpu,.bool forced,.bool sleeps,.int .i64 timer] 79):=⟨_,rfl⟩
    rw [← hw3] at HX KX AX RX TX SX;have t0:=TX.out.cell 0;have b1:=HX.out.cell 1;clear a0 c0 AB RB TB LC KC;replace hw3:=Hd hw3;rw [← hw3.out]
    cases hq:balOk k x with
    | false =>
     rw [hq] at M
     refine ⟨trivial,(CallsIn.inRound _ (callsIn_wide.2 (M _))).mono ?_⟩
     rintro e w4 ⟨rfl,rfl⟩
     gi_wp2_with fail
     exact ⟨⟨SX.block _ (by omega),SX.block _ (by omega)⟩,⟨SX.block _ (by omega),SX.block _ (by omega)⟩,fun y hy=>(List.mem_append.1 hy).elim (hp y) (fun e=>by rw [List.mem_singleton.1 e];exact hq),hW.trans (SX.mono hxl)⟩
    | true =>
     rw [hq] at M
     refine ⟨trivial,(CallsIn.inRound _ (callsIn_wide.2 (M _))).mono ?_⟩
     rintro e w4 ⟨rfl,rfl⟩
     have L0:=Hd (Lk.of_below (F:=F) SX)
     have a0:=AX.out.cell 0;have c1:=KX.out.h1;have P1:=Hd (KX.out.krtake z);clear t0 b1 M
     gi_wp2_with fail
     refine ⟨trivial,(CallsIn.inRound _ (callsIn_wide.2 P1.out)).mono ?_⟩
     rintro e w4 ⟨rfl,S4⟩;clear P1 a0 c1;obtain ⟨F4,L4,K4⟩:=S4.open;replace K4:=Hd K4;have A4:=Hd (AX.out.lk L4);have R4:=Hd (RX.out.lk L4);have T4:=Hd (TX.out.lk L4);have X4:=Hd (HX.out.lk L4);replace L0:=Hd (L0.out.trans L4);clear S4 L4 AX RX TX HX KX;have a0:=A4.out.cell 0;have c0:=K4.out.h0;have t0:=T4.out.cell 0
     have P2:=Hd ((K4.out.drewN 1).ktplace z ti false)
     gi_wp2_with fail
     refine region_round (S:=fun w'=>w'.cell? ⟨w.heap.size,0,none⟩=some (.pointer (some ⟨p,0,none⟩))∧w'.cell? ⟨p,0,none⟩=some (.pointer (some ⟨f.pt 0,0,none⟩))∧w'.cell? ⟨b5,0,none⟩=some (.int .i64 ti)) (by kernel_rfl) (by kernel_rfl) (fun ⟨_,_,h⟩=>h) ⟨a0,c0,t0⟩ (fun hHeld=>?_)
     refine wpAnyH_take (i:=0) (oi:=?_) (v:=?_) ?_ (by kernel_rfl) (by kernel_rfl) (by kernel_rfl) ?_ (Or.inl ⟨?_,?_⟩) hHeld ?_
     rotate_left 2
     ·simp only [sD,sE,sF];rfl
     ·exact fun _ _ _ h=>h
     ·rfl
     ·intro w' hSw;(try dsimp only at hSw);go_simp;(try with_reducible rfl)
     (try simp only [Act.put,sA,sB,sC])
     refine wpAnyH_take (i:=1) (oi:=?_) (v:=?_) ?_ (by kernel_rfl) (by kernel_rfl) (by kernel_rfl) ?_ (Or.inl ⟨?_,?_⟩) hHeld ?_
     rotate_left 2
     ·simp only [sD,sE,sF];rfl
     ·exact fun _ _ _ h=>h
     ·rfl
     ·intro w' hSw;(try dsimp only at hSw);go_simp;(try with_reducible rfl)
     (try simp only [Act.put,sA,sB,sC])
     refine wpAnyH_take (i:=2) (oi:=?_) (v:=?_) ?_ (by kernel_rfl) (by kernel_rfl) (by kernel_rfl) ?_ (Or.inl ⟨?_,?_⟩) hHeld ?_
     rotate_left 2
     ·simp only [sD,sE,sF];rfl
     ·exact fun _ _ _ h=>h
     ·rfl
     ·intro w' hSw;(try dsimp only at hSw);go_simp;(try with_reducible rfl)
     (try simp only [Act.put,sA,sB,sC])
     refine wpAnyH_take (i:=3) (oi:=?_) (v:=?_) ?_ (by kernel_rfl) (by kernel_rfl) (by kernel_rfl) ?_ (Or.inl ⟨?_,?_⟩) hHeld ?_
     rotate_left 2
     ·simp only [sD,sE,sF];rfl
     ·exact fun _ _ _ h=>h
     ·rfl
     ·intro w' hSw;(try dsimp only at hSw);go_simp;(try with_reducible rfl)
     (try simp only [Act.put,sA,sB,sC])
     refine wpAnyH_take (i:=4) (oi:=?_) (v:=?_) ?_ (by kernel_rfl) (by kernel_rfl) (by kernel_rfl) ?_ (Or.inl ⟨?_,?_⟩) hHeld ?_
     rotate_left 2
     ·simp only [sD,sE,sF];rfl
     ·exact fun _ _ _ h=>h
     ·rfl
     ·intro w' hSw;(try dsimp only at hSw);go_simp;(try with_reducible rfl)
     (try simp only [Act.put,sA,sB,sC])
     refine wpAnyH_take (i:=5) (oi:=?_) (v:=?_) ?_ (by kernel_rfl) (by kernel_rfl) (by kernel_rfl) ?_ (Or.inl ⟨?_,?_⟩) hHeld ?_
     rotate_left 2
     ·simp only [sD,sE,sF];rfl
     ·exact fun _ _ _ h=>h
     ·rfl
     ·intro w' hSw;(try dsimp only at hSw);go_simp;(try with_reducible rfl)
     (try simp only [Act.put,sA,sB,sC])
     refine wpAnyH_take (i:=6) (oi:=?_) (v:=?_) ?_ (by kernel_rfl) (by kernel_rfl) (by kernel_rfl) ?_ (Or.inl ⟨?_,?_⟩) hHeld ?_
     rotate_left 2
     ·simp only [sD,sE,sF];rfl
     ·exact fun _ _ _ h=>h
     ·rfl
     ·intro w' hSw;(try dsimp only at hSw);go_simp;(try with_reducible rfl)
     (try simp only [Act.put,sA,sB,sC])
     refine wpAnyH_ready (rs:=[7]) (by kernel_rfl) (by simp) ?_
     refine AllReadyH.cons (o:=?_) ?_ (fun K hK=>?_) AllReadyH.nil
     rotate_left 1
     ·simp only [sD,sE,sF];rfl
     go_simp
     (refine P2.out.mono ?_;rintro e w5 ⟨rfl,S5⟩)
     refine hK.out _ _ ⟨(S5.keep A4.out.blk A4.out.off).cell 0,S5.1.h0,(S5.keep T4.out.blk T4.out.off).cell 0⟩ (fun hHeld=>?_)
     clear hK K
     (try simp only [Act.put,sA,sB,sC])
     refine wpAnyH_done (by kernel_rfl) ?_ _
     clear P2 a0 c0 t0 hHeld;obtain ⟨F5,L5,K5⟩:=S5.open;replace K5:=Hd K5
     have A5:=Hd ((A4.out.drewN 1).lk L5)
     have R5:=Hd ((R4.out.drewN 1).lk L5)
     have T5:=Hd ((T4.out.drewN 1).lk L5)
     have X5:=Hd ((X4.out.drewN 1).lk L5)
     replace L0:=Hd ((L0.out.drewN 1).trans L5)
     clear S5 L5 A4 R4 T4 X4 K4;have a0:=A5.out.cell 0;have c1:=K5.out.h1;have t0:=T5.out.cell 0;have b0:=X5.out.cell 0
     have P3:=Hd ((K5.out.drewN 1).krput ti prio z)
     gi_wp2_with fail
     refine region_round (S:=fun w'=>w'.cell? ⟨w.heap.size,0,none⟩=some (.pointer (some ⟨p,0,none⟩))∧w'.cell? ⟨p,1,none⟩=some (.pointer (some ⟨f.pt 1,0,none⟩))∧w'.cell? ⟨b5,0,none⟩=some (.int .i64 ti)∧w'.cell? ⟨w2.heap.size,0,none⟩=some (.int .i64 prio)) (by kernel_rfl) (by kernel_rfl) (fun ⟨_,_,h⟩=>h) ⟨a0,c1,t0,b0⟩ (fun hHeld=>?_)
     refine wpAnyH_take (i:=0) (oi:=?_) (v:=?_) ?_ (by kernel_rfl) (by kernel_rfl) (by kernel_rfl) ?_ (Or.inl ⟨?_,?_⟩) hHeld ?_
     rotate_left 2
     ·simp only [sD,sE,sF];rfl
     ·exact fun _ _ _ h=>h
     ·rfl
     ·intro w' hSw;(try dsimp only at hSw);go_simp;(try with_reducible rfl)
     (try simp only [Act.put,sA,sB,sC])
     refine wpAnyH_take (i:=1) (oi:=?_) (v:=?_) ?_ (by kernel_rfl) (by kernel_rfl) (by kernel_rfl) ?_ (Or.inl ⟨?_,?_⟩) hHeld ?_
     rotate_left 2
     ·simp only [sD,sE,sF];rfl
     ·exact fun _ _ _ h=>h
     ·rfl
     ·intro w' hSw;(try dsimp only at hSw);go_simp;(try with_reducible rfl)
     (try simp only [Act.put,sA,sB,sC])
     refine wpAnyH_take (i:=2) (oi:=?_) (v:=?_) ?_ (by kernel_rfl) (by kernel_rfl) (by kernel_rfl) ?_ (Or.inl ⟨?_,?_⟩) hHeld ?_
     rotate_left 2
     ·simp only [sD,sE,sF];rfl
     ·exact fun _ _ _ h=>h
     ·rfl
     ·intro w' hSw;(try dsimp only at hSw);go_simp;(try with_reducible rfl)
     (try simp only [Act.put,sA,sB,sC])
     refine wpAnyH_take (i:=3) (oi:=?_) (v:=?_) ?_ (by kernel_rfl) (by kernel_rfl) (by kernel_rfl) ?_ (Or.inl ⟨?_,?_⟩) hHeld ?_
     rotate_left 2
     ·simp only [sD,sE,sF];rfl
     ·exact fun _ _ _ h=>h
     ·rfl
     ·intro w' hSw;(try dsimp only at hSw);go_simp;(try with_reducible rfl)
     (try simp only [Act.put,sA,sB,sC])
     refine wpAnyH_take (i:=4) (oi:=?_) (v:=?_) ?_ (by kernel_rfl) (by kernel_rfl) (by kernel_rfl) ?_ (Or.inl ⟨?_,?_⟩) hHeld ?_
     rotate_left 2
     ·simp only [sD,sE,sF];rfl
     ·exact fun _ _ _ h=>h
     ·rfl
     ·intro w' hSw;(try dsimp only at hSw);go_simp;(try with_reducible rfl)
     (try simp only [Act.put,sA,sB,sC])
     refine wpAnyH_take (i:=5) (oi:=?_) (v:=?_) ?_ (by kernel_rfl) (by kernel_rfl) (by kernel_rfl) ?_ (Or.inl ⟨?_,?_⟩) hHeld ?_
     rotate_left 2
     ·simp only [sD,sE,sF];rfl
     ·exact fun _ _ _ h=>h
     ·rfl
     ·intro w' hSw;(try dsimp only at hSw);go_simp;(try with_reducible rfl)
     (try simp only [Act.put,sA,sB,sC])
     refine wpAnyH_take (i:=6) (oi:=?_) (v:=?_) ?_ (by kernel_rfl) (by kernel_rfl) (by kernel_rfl) ?_ (Or.inl ⟨?_,?_⟩) hHeld ?_
     rotate_left 2
     ·simp only [sD,sE,sF];rfl
     ·exact fun _ _ _ h=>h
     ·rfl
     ·intro w' hSw;(try dsimp only at hSw);go_simp;(try with_reducible rfl)
     (try simp only [Act.put,sA,sB,sC])
     refine wpAnyH_take (i:=7) (oi:=?_) (v:=?_) ?_ (by kernel_rfl) (by kernel_rfl) (by kernel_rfl) ?_ (Or.inl ⟨?_,?_⟩) hHeld ?_
     rotate_left 2
     ·simp only [sD,sE,sF];rfl
     ·exact fun _ _ _ h=>h
     ·rfl
     ·intro w' hSw;(try dsimp only at hSw);go_simp;(try with_reducible rfl)
     (try simp only [Act.put,sA,sB,sC])
     refine wpAnyH_take (i:=8) (oi:=?_) (v:=?_) ?_ (by kernel_rfl) (by kernel_rfl) (by kernel_rfl) ?_ (Or.inl ⟨?_,?_⟩) hHeld ?_
     rotate_left 2
     ·simp only [sD,sE,sF];rfl
     ·exact fun _ _ _ h=>h
     ·rfl
     ·intro w' hSw;(try dsimp only at hSw);go_simp;(try with_reducible rfl)
     (try simp only [Act.put,sA,sB,sC])
     refine wpAnyH_ready (rs:=[9]) (by kernel_rfl) (by simp) ?_
     refine AllReadyH.cons (o:=?_) ?_ (fun K hK=>?_) AllReadyH.nil
     rotate_left 1
     ·simp only [sD,sE,sF];rfl
     go_simp
     (refine P3.out.mono ?_;rintro e w6 ⟨rfl,S6⟩)
     refine hK.out _ _ ⟨(S6.keep A5.out.blk A5.out.off).cell 0,S6.1.h1,(S6.keep T5.out.blk T5.out.off).cell 0,(S6.keep X5.out.blk X5.out.off).cell 0⟩ (fun hHeld=>?_)
     clear hK K
     (try simp only [Act.put,sA,sB,sC])
     refine wpAnyH_done (by kernel_rfl) ?_ _
     clear P3 a0 c1 t0 b0 hHeld;obtain ⟨F6,L6,K6⟩:=S6.open
     have R6:=(R5.out.drewN 1).lk L6
     have L6:=(L0.out.drewN 1).trans L6
     clear S6 A5 R5 T5 X5 K5 L0;have r0:=R6.cell 0;have fr0:=R6.blk.frozen 0
     have hKS:=K6.close L6 KB.out
     have hc:Ch (fun b=>b=w.heap.size+1) w6 (w6.setCell ⟨w.heap.size+1,0,none⟩ (.int .i64 z)):=(Ch.refl (fun b=>b=w.heap.size+1) w6).setCell (p:=⟨w.heap.size+1,0,none⟩) (fun _=>rfl) _
     have hsz6:(w6.setCell ⟨w.heap.size+1,0,none⟩ (.int .i64 z)).heap.size=w6.heap.size:=by simp
     have h2:=H0.out.tab.two
     have hy0:(w6.setCell ⟨w.heap.size+1,0,none⟩ (.int .i64 z)).cell? ⟨w.heap.size+1,0,none⟩=some (.int .i64 z):=R6.blk.self 0 _ (by decide)
     have hKF:KAt (w6.setCell ⟨w.heap.size+1,0,none⟩ (.int .i64 z)) (Plus W (w6.setCell ⟨w.heap.size+1,0,none⟩ (.int .i64 z)) F) p f (balGo k z):=by
      have hk:balGo k z={ { { k with qs:=(runqTake k.qs z).1 } with th:=(thPlace k.th z ti false).1 } with qs:=(runqPut (runqTake k.qs z).1 ti prio z).1 }:=by
       unfold balGo;rw [ht.out,← hy.out]
      rw [hk]
      have:=hKS.1.ch hc (fun b hb e=>hb.elim (fun h=>by have:=HK.out.ltF b h;exact HR.out.off (e ▸ h)) (fun h=>by have e:b=w.heap.size+1:=e;omega)) (fun e=>by have e:2=w.heap.size+1:=e;omega)
      unfold Plus at this ⊢
      rw [hsz6]
      exact this
     have hCF:Ch (fun b=>F b∨b=w.heap.size+1∨b=V.heap.size+1) W (w6.setCell ⟨w.heap.size+1,0,none⟩ (.int .i64 z)):=(hKS.2.mono (fun _ _ h=>.inl h)).setCell (p:=⟨w.heap.size+1,0,none⟩) (fun _=>.inr (.inl rfl)) _
     have hrow:∀ b,V.heap.size≤b→b < W.heap.size→(w6.setCell ⟨w.heap.size+1,0,none⟩ (.int .i64 z)).heap[b]? = W.heap[b]?:=fun b h1 h3=>(Below.heap_setCell _ _ _ _ (by simp;omega)).trans (hKS.2.block b h3 (fun e=>by have:=HK.out.ltF b e;omega))
     replace hKS:=Hd hKS;replace hc:=Hd hc;replace hKF:=Hd hKF;replace hCF:=Hd hCF;replace hrow:=Hd hrow;replace hsz6:=Hd hsz6;replace hy0:=Hd hy0;clear R6 L6 K6
     gi_wp2_with fail
     exact ⟨⟨hrow.out _ (Nat.le_refl _) (by omega),hrow.out _ (by omega) (by omega)⟩,pre,x,W,rfl,hp,hq,hW,hsz,by rw [← hz.out];exact hKF.out,hCF.out,by rw [← hz.out];exact hy0.out⟩
   case done =>
    rintro xs W hS ⟨hp,hW⟩ hD
    have E:kBalance k=(k,0):=by
     have e:balPick k=none:=by
      unfold balPick;rw [hf.out,← hl.out,← hn.out,List.find?_eq_none]
      intro y hy
      rw [hp y (by rw [show xs=downs n n from hS];exact hy)]
      decide
     unfold kBalance;rw [hfalse.out,if_neg (by decide),e]
    have KB:=Hd (HK.out.below hW)
    have LB:=Lk.of_below (F:=F) hW
    have RB:=Hd (HR.out.lk LB);have LL:=Hd (HL.out.trans LB);have r0:=RB.out.cell 0;have fr0:=RB.out.blk.frozen 0
    have y0:(W.setCell ⟨w.heap.size+1,0,none⟩ (.int .i64 0)).cell? ⟨w.heap.size+1,0,none⟩=some (.int .i64 0):=RB.out.blk.self 0 _ (by decide)
    have hD2:(W.setCell ⟨w.heap.size+1,0,none⟩ (.int .i64 0)).heap[V.heap.size]? = some (.deferred (some [])):=(Below.heap_setCell _ _ _ _ (by simp;omega)).trans hD
    unfold marked;dsimp only;go_wp2;rw [E]
    refine ⟨by simp,.inl ⟨_,_,rfl,run_takeDeferred hD2,?_⟩⟩
    have e0:=cell_kept y0 (grownBy_putObj' _ V.heap.size (.deferred none)) (fun r e=>by cases e;exact ⟨_,hD2,rfl⟩)
    refine ⟨.int .i64 0,by simp [results,f172,go_sem,e0],rfl,?_⟩
    have h2:=H0.out.tab.two
    have hVw:w.heap.size+1 < V.heap.size:=hRl
    have K1:=KB.out.ch ((Ch.refl (fun b=>b=w.heap.size+1) W).setCell (p:=⟨w.heap.size+1,0,none⟩) (fun _=>rfl) (.int .i64 0)) (fun b hb e=>HR.out.off (e ▸ hb)) (fun e=>by have e:2=w.heap.size+1:=e;omega)
    have K2:=K1.ch (ch_obj _ V.heap.size (.deferred none)) (fun b hb e=>by have:=HK.out.ltF b hb;have e:b=V.heap.size:=e;omega) (fun e=>by have e:2=V.heap.size:=e;omega)
    exact K2.close ⟨(LL.out.1.setCell (p:=⟨w.heap.size+1,0,none⟩) (fun h=>absurd h (by simp)) (.int .i64 0)).obj (by omega) _,fun b hb=>.inl hb⟩ H0.out
   case stop =>
    rintro pre W ⟨k9,hk9,hpre⟩ ⟨pre',x,W1,rfl,hp,hq,hBW,hsz,hKA,hCh,hcell⟩ hD;unfold marked;dsimp only
    have E:kBalance k=(balGo k (l.getD x 0),l.getD x 0):=by
     have e:balPick k=some x:=by
      unfold balPick;rw [hf.out,← hl.out,← hn.out]
      exact downs_find n k9 hk9 _ pre' x hpre hp hq
     unfold kBalance;rw [hfalse.out,if_neg (by decide),e];dsimp only;rw [hf.out,← hl.out]
    gi_wp2
    rw [E]
    refine ⟨by simp,.inl ⟨_,_,rfl,run_takeDeferred hD,?_⟩⟩
    have e0:=cell_kept hcell (grownBy_putObj' _ V.heap.size (.deferred none)) (fun r e=>by cases e;exact ⟨_,hD,rfl⟩)
    refine ⟨.int .i64 (l.getD x 0),by simp [results,f172,go_sem,e0],rfl,?_⟩
    have h2:=H0.out.tab.two
    have hVw:w.heap.size+1 < V.heap.size:=hRl
    have hs1:=hBW.size;have hs2:=hCh.size
    have hsz2:(W.putObj V.heap.size (.deferred none)).heap.size=W.heap.size:=by simp
    have K2:=hKA.ch (ch_obj _ V.heap.size (.deferred none)) (fun b hb e=>by have e:b=V.heap.size:=e;exact hb.elim (fun h=>by have:=HK.out.ltF b h;omega) (fun h=>by omega)) (fun e=>by have e:2=V.heap.size:=e;omega)
    have hC:Ch F w (W.putObj V.heap.size (.deferred none)):=by
     have h1:Ch F w W:=⟨hCh.os.trans (hBW.os.trans HL.out.1.os),hCh.tape.trans (hBW.tape.trans HL.out.1.tape),hCh.output.trans (hBW.output.trans HL.out.1.output),by omega,fun b hb hF =>
      (hCh.block b (by omega) (fun e=>e.elim hF (fun e=>e.elim (fun e=>by omega) (fun e=>by omega)))).trans ((hBW.block b (by omega)).trans (HL.out.1.block b hb hF))⟩
     exact h1.obj (by omega) _
    refine ⟨K2.mono (fun b hb=>hb.imp id (fun h=>⟨by omega,by rw [hsz2];exact h.2⟩)) (Plus.lt H0.out.ltF hC.size) (fun e=>e.elim H0.out.two (fun e=>by omega)),hC⟩
end
section
open Go.Proofs.YtiocbpabbjgkhaaGreatDoor.NumD
def kRest (k:K) (e:Ev):K × List Rec :=
 if e.kind=11 then (kCancel k e.id,ansF 0 (kCancelR k e.id)) else
 if e.kind=19 then (k,ansF (kFlushR k e.id).1 (kFlushR k e.id).2) else
 if e.kind=25 then (kPlan k e.n,ansF 0 (kPlanR k e.n)) else
 if e.kind=27 then ({ k with gt:=(gateLeave k.gt e.cpu).1 },ansF 0 (gateLeave k.gt e.cpu).2) else
 if e.kind=28 then (kLimits k e.n,ansF 0 (kLimitsR e.n)) else
 if e.kind=29 then (kSpeed k e.id e.n,ansF 0 (kSpeedR k e.id e.n)) else
 if e.kind=30 then ((kBalance k).1,ansF (kBalance k).2 0) else (k,ansF 0 2)
theorem KAt.krest (h:KAt w F p f k) (e:Ev):Calls prog 89 #[.pointer (some ⟨p,0,none⟩),.agg (evC e)] w fun r w'=>KR w F p f (kRest k e).1 (kRest k e).2 r w':=by
 have H0:=Hd h;have HK:=Hd h;have HL:=Hd (Lk.refl w F);clear h;obtain ⟨kind,cpu,id,m,n⟩:=e;unfold kRest evC;dsimp only
 by_cases h11:kind=11
 ·subst h11
  rw [if_pos rfl]
  have HX:=HK.out.bx HL.out #[.int .i64 11,.int .i64 cpu,.int .i64 id,.int .u64 m,.int .i64 n] 39
  clear HL HK;obtain ⟨HB,HK,HL⟩:=HX;have b0:=HB.out.cell 0;have b1:=HB.out.cell 1;have b2:=HB.out.cell 2;have b4:=HB.out.cell 4
  go_enter func89,ntmps89
  have P:=Hd (HK.out.kcancel id);go_wp2_with fail;refine P.out.mono ?_;rintro e w1 ⟨rfl,S⟩;clear P;replace S:=S.nx HL.out;clear HL HK;obtain ⟨F1,HK,HL⟩:=S
  try dsimp only at HK
  have P:=Hd (kplain H0.out HL.out HK.out (kCancelR k id))
  go_wp2_with fail;refine P.out.mono ?_;rintro e w1 ⟨⟨v,rfl,hv⟩,S⟩;replace hv:=Hd hv;clear P;go_wp2;go_returns
  exact ⟨⟨_,rfl,hv.out⟩,S⟩
 rw [if_neg h11]
 have g11:(kind == 11)=false:=by simpa using h11
 by_cases h19:kind=19
 ·subst h19
  rw [if_pos rfl];clear h11 g11
  have HX:=HK.out.bx HL.out #[.int .i64 19,.int .i64 cpu,.int .i64 id,.int .u64 m,.int .i64 n] 39
  clear HL HK;obtain ⟨HB,HK,HL⟩:=HX;have b0:=HB.out.cell 0;have b1:=HB.out.cell 1;have b2:=HB.out.cell 2;have b4:=HB.out.cell 4
  go_enter func89,ntmps89
  have P:=Hd (HK.out.kflush id);go_wp2_with fail;refine P.out.mono ?_;rintro e w1 ⟨rfl,rfl⟩;clear P
  have P:=Hd (kanswer H0.out HL.out HK.out (kFlushR k id).1 (kFlushR k id).2)
  go_wp2_with fail;refine P.out.mono ?_;rintro e w1 ⟨⟨v,rfl,hv⟩,S⟩;replace hv:=Hd hv;clear P;go_wp2;go_returns
  exact ⟨⟨_,rfl,hv.out⟩,S⟩
 rw [if_neg h19]
 have g19:(kind == 19)=false:=by simpa using h19
 by_cases h25:kind=25
 ·subst h25
  rw [if_pos rfl];clear h11 g11 h19 g19
  have HX:=HK.out.bx HL.out #[.int .i64 25,.int .i64 cpu,.int .i64 id,.int .u64 m,.int .i64 n] 39
  clear HL HK;obtain ⟨HB,HK,HL⟩:=HX;have b0:=HB.out.cell 0;have b1:=HB.out.cell 1;have b2:=HB.out.cell 2;have b4:=HB.out.cell 4
  go_enter func89,ntmps89
  have P:=Hd (HK.out.kplan n);go_wp2_with fail;refine P.out.mono ?_;rintro e w1 ⟨rfl,S⟩;clear P;replace S:=S.nx HL.out;clear HL HK;obtain ⟨F1,HK,HL⟩:=S
  try dsimp only at HK
  have P:=Hd (kplain H0.out HL.out HK.out (kPlanR k n))
  go_wp2_with fail;refine P.out.mono ?_;rintro e w1 ⟨⟨v,rfl,hv⟩,S⟩;replace hv:=Hd hv;clear P;go_wp2;go_returns
  exact ⟨⟨_,rfl,hv.out⟩,S⟩
 rw [if_neg h25]
 have g25:(kind == 25)=false:=by simpa using h25
 by_cases h27:kind=27
 ·subst h27
  rw [if_pos rfl];clear h11 g11 h19 g19 h25 g25
  have HX:=HK.out.bx HL.out #[.int .i64 27,.int .i64 cpu,.int .i64 id,.int .u64 m,.int .i64 n] 39
  clear HL HK;obtain ⟨HB,HK,HL⟩:=HX;have b0:=HB.out.cell 0;have b1:=HB.out.cell 1;have b2:=HB.out.cell 2;have b4:=HB.out.cell 4
  go_enter func89,ntmps89
  replace HB:=Hd (HB.out.drewN 1);replace HL:=Hd (HL.out.drewN 1);replace HK:=Hd (HK.out.drewN 1);have c9:=HK.out.h9
  replace b1:=HB.out.cell 1
  have Q:=Hd (HK.out.kgleave cpu);clear b0 b2 b4;go_wp2_with fail
  go_region_held3 (fun w'=>w'.cell? ⟨p,9,none⟩=some (.pointer (some ⟨f.pt 9,0,none⟩))∧w'.cell? ⟨w.heap.size,1,none⟩=some (.int .i64 cpu))
   (first
    | exact ⟨c9,b1⟩
    | exact ⟨S.1.h9,(S.keep HB.out.blk HB.out.off).cell 1⟩
    | exact ⟨keepcell hb S.1.h9,keepcell hb ((S.keep HB.out.blk HB.out.off).cell 1)⟩
    | (go_split_ands;refine ⟨?_,?_⟩ <;> first | exact S.1.h9 | exact (S.keep HB.out.blk HB.out.off).cell 1 | exact keepcell hb S.1.h9 | exact keepcell hb ((S.keep HB.out.blk HB.out.off).cell 1) | exact c9 | exact b1)
    | go_keep)
   (first
    | (go_at_call 169;refine Q.out.mono ?_;rintro e w1 ⟨rfl,S⟩)
    | (go_at_call 79;refine (plain_any _ _).mono ?_;rintro e w2 ⟨⟨v,rfl,hv⟩,hb⟩))
  replace hv:=Hd hv;obtain ⟨F1,L1,K1⟩:=S.open;clear S
  try dsimp only at K1
  replace HB:=Hd (HB.out.lk L1);replace HL:=Hd (HL.out.trans L1);replace HK:=Hd K1;clear L1 K1;replace hv:=Hd (RecsK.of HL.out HK.out hb hv.out);have S:=hb
  replace HB:=Hd (HB.out.lk (Lk.of_below S))
  replace HL:=Hd (HL.out.below S);replace HK:=Hd (HK.out.below S);clear S;clear hb;go_wp2;go_returns
  exact ⟨⟨_,rfl,hv.out⟩,HK.out.close HL.out H0.out⟩
 rw [if_neg h27]
 have g27:(kind == 27)=false:=by simpa using h27
 by_cases h28:kind=28
 ·subst h28
  rw [if_pos rfl];clear h11 g11 h19 g19 h25 g25 h27 g27
  have HX:=HK.out.bx HL.out #[.int .i64 28,.int .i64 cpu,.int .i64 id,.int .u64 m,.int .i64 n] 39
  clear HL HK;obtain ⟨HB,HK,HL⟩:=HX;have b0:=HB.out.cell 0;have b1:=HB.out.cell 1;have b2:=HB.out.cell 2;have b4:=HB.out.cell 4
  go_enter func89,ntmps89
  have P:=Hd (HK.out.klimits n);go_wp2_with fail;refine P.out.mono ?_;rintro e w1 ⟨rfl,S⟩;clear P;replace S:=S.nx HL.out;clear HL HK;obtain ⟨F1,HK,HL⟩:=S
  try dsimp only at HK
  have P:=Hd (kplain H0.out HL.out HK.out (kLimitsR n))
  go_wp2_with fail;refine P.out.mono ?_;rintro e w1 ⟨⟨v,rfl,hv⟩,S⟩;replace hv:=Hd hv;clear P;go_wp2;go_returns
  exact ⟨⟨_,rfl,hv.out⟩,S⟩
 rw [if_neg h28]
 have g28:(kind == 28)=false:=by simpa using h28
 by_cases h29:kind=29
 ·subst h29
  rw [if_pos rfl];clear h11 g11 h19 g19 h25 g25 h27 g27 h28 g28
  have HX:=HK.out.bx HL.out #[.int .i64 29,.int .i64 cpu,.int .i64 id,.int .u64 m,.int .i64 n] 39
  clear HL HK;obtain ⟨HB,HK,HL⟩:=HX;have b0:=HB.out.cell 0;have b1:=HB.out.cell 1;have b2:=HB.out.cell 2;have b4:=HB.out.cell 4
  go_enter func89,ntmps89
  have P:=Hd (HK.out.kspeed id n);go_wp2_with fail;refine P.out.mono ?_;rintro e w1 ⟨rfl,S⟩;clear P;replace S:=S.nx HL.out;clear HL HK;obtain ⟨F1,HK,HL⟩:=S
  try dsimp only at HK
  have P:=Hd (kplain H0.out HL.out HK.out (kSpeedR k id n))
  go_wp2_with fail;refine P.out.mono ?_;rintro e w1 ⟨⟨v,rfl,hv⟩,S⟩;replace hv:=Hd hv;clear P;go_wp2;go_returns
  exact ⟨⟨_,rfl,hv.out⟩,S⟩
 rw [if_neg h29]
 have g29:(kind == 29)=false:=by simpa using h29
 by_cases h30:kind=30
 ·subst h30
  rw [if_pos rfl];clear h11 g11 h19 g19 h25 g25 h27 g27 h28 g28 h29 g29
  have HX:=HK.out.bx HL.out #[.int .i64 30,.int .i64 cpu,.int .i64 id,.int .u64 m,.int .i64 n] 39
  clear HL HK;obtain ⟨HB,HK,HL⟩:=HX;have b0:=HB.out.cell 0;have b1:=HB.out.cell 1;have b2:=HB.out.cell 2;have b4:=HB.out.cell 4
  go_enter func89,ntmps89
  have P:=Hd (HK.out.kbalance);go_wp2_with fail;refine P.out.mono ?_;rintro e w1 ⟨rfl,S⟩;clear P;replace S:=S.nx HL.out;clear HL HK;obtain ⟨F1,HK,HL⟩:=S
  try dsimp only at HK
  have P:=Hd (kanswer H0.out HL.out HK.out (kBalance k).2 0)
  go_wp2_with fail;refine P.out.mono ?_;rintro e w1 ⟨⟨v,rfl,hv⟩,S⟩;replace hv:=Hd hv;clear P;go_wp2;go_returns
  exact ⟨⟨_,rfl,hv.out⟩,S⟩
 rw [if_neg h30]
 have g30:(kind == 30)=false:=by simpa using h30
 have HX:=HK.out.bx HL.out #[.int .i64 kind,.int .i64 cpu,.int .i64 id,.int .u64 m,.int .i64 n] 39
 clear HL HK;obtain ⟨HB,HK,HL⟩:=HX;have b0:=HB.out.cell 0;have b1:=HB.out.cell 1;have b2:=HB.out.cell 2;have b4:=HB.out.cell 4
 go_enter func89,ntmps89
 have P:=Hd (kplain H0.out HL.out HK.out 2);go_wp2_with fail;refine P.out.mono ?_;rintro e w1 ⟨⟨v,rfl,hv⟩,S⟩;replace hv:=Hd hv;clear P;go_wp2;go_returns
 exact ⟨⟨_,rfl,hv.out⟩,S⟩
end
end Go.Proofs.YtiocbpabbjgkhaaGreatDoor
