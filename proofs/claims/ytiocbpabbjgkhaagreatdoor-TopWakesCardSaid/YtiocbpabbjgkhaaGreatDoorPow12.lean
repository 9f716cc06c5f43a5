/- Part 12 of the proof: contracts and plain laws, each under the conditions that it names. -/
import Derived.Test.YtiocbpabbjgkhaaGreatDoorPow11
set_option maxRecDepth 100000
set_option maxHeartbeats 20000000
set_option linter.unusedVariables false
set_option linter.unusedSimpArgs false
namespace Go.Proofs.YtiocbpabbjgkhaaGreatDoor
open Go.RowKit Go.Proofs.Tryz
variable {w w' : World} {F : Nat → Prop} {p : Nat}
def worksQueueTo (m:Works) (i:Nat) (cpu:Int) (s:Slot × Int × Int):Works × Int × Int :=
 (⟨s.1,m.l.set i (pushF 32 (m.l.getD i []) s.2.1).1,mput m.wh s.2.1 cpu⟩,s.2.1,(pushF 32 (m.l.getD i []) s.2.1).2)
def worksQueue (m:Works) (cpu:Int):Works × Int × Int :=
 if wMay m.l.length cpu (-1)≠0 then (m,0,3) else
 if (slotTake 32 m.ids).2.2≠0 then (⟨(slotTake 32 m.ids).1,m.l,m.wh⟩,0,(slotTake 32 m.ids).2.2) else
 worksQueueTo m (cpu+1).toNat cpu (slotTake 32 m.ids)
theorem lqueue_any (w:World) (hT:Tab w) {m:Works} (h:WorksAt w F p m) (cpu:Int):Calls prog 86 #[.pointer (some ⟨p,0,none⟩),.int .i64 cpu] w fun e w'=>e=.returned (.tuple #[.int .i64 (worksQueue m cpu).2.1,.int .i64 (worksQueue m cpu).2.2])∧WorksAt w' (Plus w w' F) p (worksQueue m cpu).1∧Ch F w w':=by
 have HT:=Hd h
 have A:=Hd (lmay_any w h cpu (-1) (.inl rfl))
 obtain ⟨sp,wb,rv,ptrs,c,h⟩:=h;obtain ⟨c0,c1,c2⟩:=h.cells;unfold worksQueue
 rcases wMay_cases m.l.length cpu (-1) (.inl rfl) with ⟨e,-⟩ | ⟨e,i,hci,hi,-⟩
 ·rw [e] at A ⊢
  rw [if_pos (by decide)];clear h e c0 c1 c2
  go_enter func86,ntmps86
  go_wp2_with fail;refine A.out.mono ?_;rintro e w1 ⟨rfl,rfl⟩;go_wp2;go_returns
  exact ⟨rfl,by rw [Plus.self];exact HT.out,Ch.refl _ _⟩
 ·rw [e] at A ⊢
  rw [if_neg (by decide),show (cpu+1).toNat=i by omega];have B:=Hd (slot_take _ h.ids hT)
  have hids:=fun (w2:World) (hs:SlotAt w2 _ sp 32 (slotTake 32 m.ids).1) (hc:Ch (Col F c 0) w w2)=>h.turnIds ownF hs hc
  replace hids:=Hd hids
  obtain ⟨T,hT'⟩:∃ T,T=slotTake 32 m.ids:=⟨_,rfl⟩
  rw [← hT'] at B hids ⊢;obtain ⟨s1,id,why⟩:=T;dsimp only at B hids ⊢;have hlt0:=Hd h.lt;clear h hT' c1 e
  by_cases hw:why=0
  ·subst hw
   rw [if_neg (by simp)];unfold worksQueueTo;dsimp only
   obtain ⟨D0,hD0⟩:∃ x,x=pushF 32 (m.l.getD i []) id:=⟨_,rfl⟩
   rw [← hD0];replace hD0:=Hd hD0
   obtain ⟨M,hM⟩:∃ M:Works,M=⟨s1,m.l.set i D0.1,mput m.wh id cpu⟩:=⟨_,rfl⟩
   rw [← hM];replace hM:=Hd hM;replace hi:=Hd hi;replace hci:=Hd hci
   go_enter func86,ntmps86
   go_wp2_with fail;refine A.out.mono ?_;rintro e w1 ⟨rfl,rfl⟩;go_wp2_with fail;refine B.out.mono ?_;rintro e w2 ⟨rfl,h1,h2⟩
   have X2:=hids.out w2 h1 h2
   have hput:=run_put (P:=prog) X2.map underlying95 underlying3 id (.int .i64 cpu)
   have X3:=X2.put ownF id cpu ⟨by have:=hci.out;omega,by have:=hci.out;have:=hi.out;show cpu < -1+(m.l.length:Nat);omega⟩
   have C:=Hd (llist_any _ X3 i hi.out cpu hci.out)
   have D:=push_any _ _ _ 32 _ (X3.ls i hi.out) id
   have hge:(⟨s1,m.l,mput m.wh id cpu⟩:Works).l.getD i []=m.l.getD i []:=rfl
   rw [hge,← hD0.out] at D;replace D:=Hd D;obtain ⟨d0,d1,d2⟩:=X2.cells;replace X2:=Hd X2;replace X3:=Hd X3;replace h2:=Hd h2;clear h1 c0 c2 d1 hge;go_wp2_with fail;refine C.out.mono ?_;rintro e w1 ⟨rfl,rfl⟩;go_wp2_with fail;refine D.out.mono ?_;rintro e w4 ⟨rfl,h5,h6⟩;replace h5:=Hd h5;replace h6:=Hd h6;go_wp2;go_returns
   have X4:=X3.out.turn ownF (i:=i) hi.out h5.out h6.out
   have hs2:=h2.out.size;have hs6:=h6.out.size
   simp only [mapPut_size] at hs6
   rw [hM.out]
   refine ⟨rfl,X4.at.mono ownF (fun b hb=>?_) (fun b hb=>?_),?_⟩
   ·rw [Plus.of_size (show (mapPut w2 wb id (.int .i64 cpu)).heap.size=w2.heap.size by simp)] at hb
    exact Plus.two hs2 hs6 b hb
   ·exact hb.elim (fun e=>by have:=hlt0.out b e;omega) (fun e=>e.2)
   ·have h3:Ch F w w2:=h2.out.mono (fun _ _ h=>h.1)
    refine (h3.mapPut (fun hb=>?_) id (.int .i64 cpu)).then h6.out (fun b hb e=>?_)
    ·exact X2.out.fm.1.elim (fun e=>e) (fun e=>by have:=e.1;omega)
    ·exact e.1.elim (fun e=>e) (fun e=>by have:=e.1;omega)
  ·rw [if_pos hw]
   have hw':(why != 0)=true:=by simpa using hw
   clear hw;replace hci:=Hd hci
   go_enter func86,ntmps86
   go_wp2_with fail;refine A.out.mono ?_;rintro e w1 ⟨rfl,rfl⟩;go_wp2_with fail;refine B.out.mono ?_;rintro e w2 ⟨rfl,h1,h2⟩
   have X2:=hids.out w2 h1 h2
   replace X2:=Hd X2;replace h2:=Hd h2;clear h1;go_wp2;go_returns
   exact ⟨rfl,X2.out.at,h2.out.mono (fun _ _ h=>h.1)⟩
def worksUnbindTo (m:Works) (i:Nat) (q:List Int × Int × Int):Works × Int × Int :=
 (⟨m.ids,(m.l.set i q.1).set 0 (pushF 32 ((m.l.set i q.1).getD 0 []) q.2.1).1,mput m.wh q.2.1 (-1)⟩,q.2.1,(pushF 32 ((m.l.set i q.1).getD 0 []) q.2.1).2)
def worksUnbind (m:Works) (cpu:Int):Works × Int × Int :=
 if wMay m.l.length cpu 0≠0 then (m,0,3) else
 if (popF (m.l.getD (cpu+1).toNat [])).2.2≠0 then (⟨m.ids,m.l.set (cpu+1).toNat (popF (m.l.getD (cpu+1).toNat [])).1,m.wh⟩,0,(popF (m.l.getD (cpu+1).toNat [])).2.2) else
 worksUnbindTo m (cpu+1).toNat (popF (m.l.getD (cpu+1).toNat []))
theorem lunbind_any (w:World) {m:Works} (h:WorksAt w F p m) (cpu:Int):Calls prog 317 #[.pointer (some ⟨p,0,none⟩),.int .i64 cpu] w fun e w'=>e=.returned (.tuple #[.int .i64 (worksUnbind m cpu).2.1,.int .i64 (worksUnbind m cpu).2.2])∧WorksAt w' (Plus w w' F) p (worksUnbind m cpu).1∧Ch F w w':=by
 have HT:=Hd h
 have A:=Hd (lmay_any w h cpu 0 (.inr rfl))
 obtain ⟨sp,wb,rv,ptrs,c,h⟩:=h;obtain ⟨c0,c1,c2⟩:=h.cells;unfold worksUnbind
 rcases wMay_cases m.l.length cpu 0 (.inr rfl) with ⟨e,-⟩ | ⟨e,i,hci,hi,hc0⟩
 ·rw [e] at A ⊢
  rw [if_pos (by decide)];clear h e c0 c1 c2
  go_enter func317,ntmps317
  go_wp2_with fail;refine A.out.mono ?_;rintro e w1 ⟨rfl,rfl⟩;go_wp2;go_returns
  exact ⟨rfl,by rw [Plus.self];exact HT.out,Ch.refl _ _⟩
 ·rw [e] at A ⊢
  rw [if_neg (by decide),show (cpu+1).toNat=i by omega];have B:=Hd (llist_any w h i hi cpu hci)
  have C:=pop_any w _ _ 32 _ (h.ls i hi)
  obtain ⟨T,hT'⟩:∃ T,T=popF (m.l.getD i []):=⟨_,rfl⟩
  rw [← hT'] at C ⊢;obtain ⟨q1,id,why⟩:=T;dsimp only at C ⊢;have hlt0:=Hd h.lt;have hX:=Hd h;replace C:=Hd C;replace hci:=Hd hci;clear h hT' c1 e
  by_cases hw:why=0
  ·subst hw
   rw [if_neg (by simp)];unfold worksUnbindTo;dsimp only
   obtain ⟨D0,hD0⟩:∃ x,x=pushF 32 ((m.l.set i q1).getD 0 []) id:=⟨_,rfl⟩
   rw [← hD0];replace hD0:=Hd hD0
   obtain ⟨M,hM⟩:∃ M:Works,M=⟨m.ids,(m.l.set i q1).set 0 D0.1,mput m.wh id (-1)⟩:=⟨_,rfl⟩
   rw [← hM];replace hM:=Hd hM;replace hi:=Hd hi
   go_enter func317,ntmps317
   go_wp2_with fail;refine A.out.mono ?_;rintro e w1 ⟨rfl,rfl⟩;go_wp2_with fail;refine B.out.mono ?_;rintro e w1 ⟨rfl,rfl⟩;go_wp2_with fail;refine C.out.mono ?_;rintro e w2 ⟨rfl,h1,h2,h3⟩
   have X2:=hX.out.turn ownF (i:=i) hi.out (FifoAt.mono h1 Plus.sub) h2
   have h0l:0 < (m.l.set i q1).length:=by rw [List.length_set];have:=hi.out;omega
   have hput:=run_put (P:=prog) X2.map underlying95 underlying3 id (.int .i64 (-1))
   have X3:=X2.put ownF id (-1) ⟨by omega,by show (-1:Int) < -1+((m.l.set i q1).length:Nat);omega⟩
   have D:=Hd (llist_any _ X3 0 h0l (-1) rfl)
   have E:=push_any _ _ _ 32 _ (X3.ls 0 h0l) id
   have hge:(⟨m.ids,m.l.set i q1,mput m.wh id (-1)⟩:Works).l.getD 0 []=(m.l.set i q1).getD 0 []:=rfl
   rw [hge,← hD0.out] at E;replace E:=Hd E;obtain ⟨d0,d1,d2⟩:=X2.cells;replace X2:=Hd X2;replace X3:=Hd X3;replace h2:=Hd h2;replace h0l:=Hd h0l;replace h3:=Hd h3;clear h1 c0 c2 d1 hge;go_wp2_with fail;refine D.out.mono ?_;rintro e w1 ⟨rfl,rfl⟩;go_wp2_with fail;refine E.out.mono ?_;rintro e w4 ⟨rfl,h5,h6⟩;replace h5:=Hd h5;replace h6:=Hd h6;go_wp2;go_returns
   have X4:=X3.out.turn ownF (i:=0) h0l.out h5.out h6.out
   have hs2:=h2.out.size;have hs6:=h6.out.size
   simp only [mapPut_size] at hs6
   rw [hM.out]
   refine ⟨rfl,X4.at.mono ownF (fun b hb=>?_) (fun b hb=>?_),?_⟩
   ·rw [Plus.of_size (show (mapPut w2 wb id (.int .i64 (-1))).heap.size=w2.heap.size by simp)] at hb
    exact Plus.two hs2 hs6 b hb
   ·exact hb.elim (fun e=>by have:=hlt0.out b e;omega) (fun e=>e.2)
   ·have h3:Ch F w w2:=h2.out.mono (fun _ _ h=>h.1)
    refine (h3.mapPut (fun hb=>?_) id (.int .i64 (-1))).then h6.out (fun b hb e=>?_)
    ·exact X2.out.fm.1.elim (fun e=>e) (fun e=>by have:=e.1;omega)
    ·exact e.1.elim (fun e=>e) (fun e=>by have:=e.1;omega)
  ·rw [if_pos hw]
   have hw':(why != 0)=true:=by simpa using hw
   clear hw;replace hi:=Hd hi
   go_enter func317,ntmps317
   go_wp2_with fail;refine A.out.mono ?_;rintro e w1 ⟨rfl,rfl⟩;go_wp2_with fail;refine B.out.mono ?_;rintro e w1 ⟨rfl,rfl⟩;go_wp2_with fail;refine C.out.mono ?_;rintro e w2 ⟨rfl,h1,h2,h3⟩
   have X2:=Hd (hX.out.turn ownF (i:=i) hi.out (FifoAt.mono h1 Plus.sub) h2)
   replace h2:=Hd h2;clear h1 h3;go_wp2;go_returns
   exact ⟨rfl,X2.out.at,h2.out.mono (fun _ _ h=>h.1)⟩
def worksTake (m:Works) (cpu:Int):Works × Int × Int :=
 if wMay m.l.length cpu 0≠0 then (m,0,3) else
 if m.l.getD (cpu+1).toNat []≠[] then ((worksDrop m ((m.l.getD (cpu+1).toNat []).headD 0)).1,(m.l.getD (cpu+1).toNat []).headD 0,(worksDrop m ((m.l.getD (cpu+1).toNat []).headD 0)).2) else
 if m.l.getD 0 []≠[] then ((worksDrop m ((m.l.getD 0 []).headD 0)).1,(m.l.getD 0 []).headD 0,(worksDrop m ((m.l.getD 0 []).headD 0)).2) else (m,0,12)
theorem frontF_yes {l:List Int} (h:l≠[]):frontF l=(l.headD 0,0):=by cases l with
 | nil=>exact absurd rfl h
 | cons x t=>rfl
theorem ltake_any (w:World) {m:Works} (h:WorksAt w F p m) (cpu:Int):Calls prog 205 #[.pointer (some ⟨p,0,none⟩),.int .i64 cpu] w fun e w'=>e=.returned (.tuple #[.int .i64 (worksTake m cpu).2.1,.int .i64 (worksTake m cpu).2.2])∧WorksAt w' (Plus w w' F) p (worksTake m cpu).1∧Ch F w w':=by
 have HT:=Hd h;have hlt0:=Hd h.ltF
 have A:=Hd (lmay_any w h cpu 0 (.inr rfl))
 unfold worksTake
 have hb0:Below w.heap.size w (w.alloc (.cells #[.int .i64 cpu,.int .i64 (-1)] 3)):=(Below.refl _ _).alloc (Nat.le_refl _) _
 have e0:(w.alloc (.cells #[.int .i64 cpu,.int .i64 (-1)] 3)).cell? ⟨w.heap.size,0,none⟩=some (.int .i64 cpu):=(Blk.new w #[.int .i64 cpu,.int .i64 (-1)] 3).cell 0
 have e1:(w.alloc (.cells #[.int .i64 cpu,.int .i64 (-1)] 3)).cell? ⟨w.heap.size,1,none⟩=some (.int .i64 (-1)):=(Blk.new w #[.int .i64 cpu,.int .i64 (-1)] 3).cell 1
 have h0:=h.below ownF hb0
 have hq:Hid (∀ n id,Calls prog 274 #[.pointer (some ⟨p,0,none⟩),.int .i64 id] ((w.alloc (.cells #[.int .i64 cpu,.int .i64 (-1)] 3)).drewN n) fun e w'=>e=.returned (.int .i64 (worksDrop m id).2)∧WorksAt w' (Plus w w' F) p (worksDrop m id).1∧Ch F w w'):=Hd (fun n id=>by
  have hb1:Below w.heap.size w ((w.alloc (.cells #[.int .i64 cpu,.int .i64 (-1)] 3)).drewN n):=hb0.trans (belowN _ n |>.mono hb0.size)
  refine (ldrop_any _ (HT.out.below ownF hb1) id).mono (fun e w' ⟨h1,h2,h3⟩=>⟨h1,h2.mono ownF (Plus.cover hb1.size) (fun b hb=>hb.elim (fun e=>?_) (fun e=>e.2)),(Ch.of_below hb1).then h3 (fun _ _ h=>h)⟩)
  have:=hlt0.out b e
  have:=h3.size
  have:=hb1.size
  omega)
 rcases wMay_cases m.l.length cpu 0 (.inr rfl) with ⟨e,-⟩ | ⟨e,i,hci,hi,hc0⟩
 ·rw [e] at A ⊢
  rw [if_pos (by decide)];clear h e h0 e0 e1
  go_enter func205,ntmps205
  go_wp2_with fail;refine A.out.mono ?_;rintro e w1 ⟨rfl,rfl⟩;go_wp2;go_returns
  exact ⟨rfl,by rw [Plus.self];exact HT.out,Ch.refl _ _⟩
 ·rw [e] at A ⊢
  rw [if_neg (by decide),show (cpu+1).toNat=i by omega];obtain ⟨sp,wb,rv,ptrs,c,h0⟩:=h0
  have h0l:0 < m.l.length:=by omega
  have B:=fun n=>Hd (llist_any ((w.alloc (.cells #[.int .i64 cpu,.int .i64 (-1)] 3)).drewN n) (h0.ch ownF ((Ch.refl (fun _=>False) _).drewN n) (fun _ _ h=>h)) i hi cpu hci)
  have C:=fun n=>Hd (llist_any ((w.alloc (.cells #[.int .i64 cpu,.int .i64 (-1)] 3)).drewN n) (h0.ch ownF ((Ch.refl (fun _=>False) _).drewN n) (fun _ _ h=>h)) 0 h0l (-1) rfl)
  have D:=fun n=>Hd (qfront_any ((w.alloc (.cells #[.int .i64 cpu,.int .i64 (-1)] 3)).drewN n) _ _ 32 _ ((h0.ch ownF ((Ch.refl (fun _=>False) _).drewN n) (fun _ _ h=>h)).ls i hi))
  have E:=fun n=>Hd (qfront_any ((w.alloc (.cells #[.int .i64 cpu,.int .i64 (-1)] 3)).drewN n) _ _ 32 _ ((h0.ch ownF ((Ch.refl (fun _=>False) _).drewN n) (fun _ _ h=>h)).ls 0 h0l))
  have hfin:Hid (∀ n,WorksAt ((w.alloc (.cells #[.int .i64 cpu,.int .i64 (-1)] 3)).drewN n) (Plus w ((w.alloc (.cells #[.int .i64 cpu,.int .i64 (-1)] 3)).drewN n) F) p m∧Ch F w ((w.alloc (.cells #[.int .i64 cpu,.int .i64 (-1)] 3)).drewN n)):=Hd (fun n=>by
   have hb1:Below w.heap.size w ((w.alloc (.cells #[.int .i64 cpu,.int .i64 (-1)] 3)).drewN n):=hb0.trans (belowN _ n |>.mono hb0.size)
   exact ⟨(HT.out.below ownF hb1).mono ownF Plus.sub (Plus.lt hlt0.out hb1.size),Ch.of_below hb1⟩)
  have B0:=B 0;have D0:=D 0
  by_cases hL:m.l.getD i []=[]
  ·rw [if_neg (by simpa using hL)]
   rw [hL] at D0
   by_cases hL2:m.l.getD 0 []=[]
   ·rw [if_neg (by simpa using hL2)]
    rw [hL2] at E;clear h h0 hL hL2 hci hi h0l hc0 e hb0 B D
    go_enter func205,ntmps205
    go_wp2_with fail;refine A.out.mono ?_;rintro e w1 ⟨rfl,rfl⟩;go_wp2
    refine wp_loop_rounds 3 ?_
    rw [rounds_succ];go_wp2_with fail;refine B0.out.mono ?_;rintro e w1 ⟨rfl,rfl⟩;go_wp2_with fail;refine D0.out.mono ?_;rintro e w1 ⟨rfl,n,rfl⟩;go_wp2;rw [rounds_succ]
    have C1:=C n
    have E1:=E n
    go_wp2_with fail;refine C1.out.mono ?_;rintro e w1 ⟨rfl,rfl⟩;go_wp2_with fail;refine E1.out.mono ?_;rintro e w1 ⟨rfl,n2,rfl⟩;go_wp2;rw [rounds_succ];go_wp2;go_returns
    exact ⟨rfl,hfin.out (n+n2)⟩
   ·rw [if_pos (by simpa using hL2)]
    rw [frontF_yes hL2] at E
    obtain ⟨x,hx⟩:∃ x,x=(m.l.getD 0 []).headD 0:=⟨_,rfl⟩
    rw [← hx] at E ⊢
    have G:=fun n=>Hd (hq.out n x)
    obtain ⟨u,hu⟩:∃ u,u=worksDrop m x:=⟨_,rfl⟩
    rw [← hu] at G ⊢;clear h h0 hL hL2 hci hi h0l hc0 e hb0 B D hx hu
    go_enter func205,ntmps205
    go_wp2_with fail;refine A.out.mono ?_;rintro e w1 ⟨rfl,rfl⟩;go_wp2
    refine wp_loop_rounds 3 ?_
    rw [rounds_succ];go_wp2_with fail;refine B0.out.mono ?_;rintro e w1 ⟨rfl,rfl⟩;go_wp2_with fail;refine D0.out.mono ?_;rintro e w1 ⟨rfl,n,rfl⟩;go_wp2;rw [rounds_succ]
    have C1:=C n
    have E1:=E n
    go_wp2_with fail;refine C1.out.mono ?_;rintro e w1 ⟨rfl,rfl⟩;go_wp2_with fail;refine E1.out.mono ?_;rintro e w1 ⟨rfl,n2,rfl⟩
    have G1:=G (n+n2)
    go_wp2_with fail;refine G1.out.mono ?_;rintro e w2 ⟨rfl,h5⟩;replace h5:=Hd h5;go_wp2;go_returns
    exact ⟨rfl,h5.out⟩
  ·rw [if_pos (by simpa using hL)]
   rw [frontF_yes hL] at D0
   obtain ⟨x,hx⟩:∃ x,x=(m.l.getD i []).headD 0:=⟨_,rfl⟩
   rw [← hx] at D0 ⊢
   have G:=fun n=>Hd (hq.out n x)
   obtain ⟨u,hu⟩:∃ u,u=worksDrop m x:=⟨_,rfl⟩
   rw [← hu] at G ⊢;clear h h0 hL hci hi h0l hc0 e hb0 B D hx hu
   go_enter func205,ntmps205
   go_wp2_with fail;refine A.out.mono ?_;rintro e w1 ⟨rfl,rfl⟩;go_wp2
   refine wp_loop_rounds 3 ?_
   rw [rounds_succ];go_wp2_with fail;refine B0.out.mono ?_;rintro e w1 ⟨rfl,rfl⟩;go_wp2_with fail;refine D0.out.mono ?_;rintro e w1 ⟨rfl,n,rfl⟩
   have G1:=G n
   go_wp2_with fail;refine G1.out.mono ?_;rintro e w2 ⟨rfl,h5⟩;replace h5:=Hd h5;go_wp2;go_returns
   exact ⟨rfl,h5.out⟩
theorem info223:(prog.info? 223).map (fun i=>(i.zero,i.size,i.bytes))=some (some (.pointer none),1,8):=by kernel_rfl
def works0 (cpus:Nat):Works:=⟨⟨0,0⟩,List.replicate (cpus+1) [],[]⟩
theorem work_new (w:World) (cpus:Nat) (h1:1≤cpus) (h64:cpus≤64):Calls prog 60 #[.int .i64 cpus] w fun e w'=>(∃ p,e=.returned (.tuple #[.pointer (some ⟨p,0,none⟩),.int .i64 0])∧WorksAt w' (Plus w w' (fun _=>False)) p (works0 cpus))∧Below w.heap.size w w':=by
 have hmm:=@run_makeMap prog
 have S:=Hd (slot_new w 32 (by omega) (by omega))
 go_enter func60,ntmps60
 go_wp2_with fail;refine S.out.mono ?_;rintro e w1 ⟨⟨sp,rfl,hs⟩,hb⟩;have hs1:=hb.size;have HS:=Hd hs;have HB:=Hd hb;clear hs hb;go_wp2
 have H0:PartQ Fifo32 222 223 1 (fun v=>#[.pointer (some ⟨sp,0,none⟩),v,.map (some w1.heap.size)]) (Beside sp 32 w1.heap.size) ([]:List Int) w ((w1.alloc (.map #[] 0)).alloc (.cells #[.pointer (some ⟨sp,0,none⟩),.slice none 0 0,.map (some w1.heap.size)] 222)) (w1.heap.size+1) 0 (.slice none 0 0) (fun _=>0) (fun b=>if b=w1.heap.size+1 then 3 else 0):=by
  have hb2:Below w1.heap.size w1 ((w1.alloc (.map #[] 0)).alloc (.cells #[.pointer (some ⟨sp,0,none⟩),.slice none 0 0,.map (some w1.heap.size)] 222)):=((Below.refl _ _).alloc (Nat.le_refl _) _).alloc (by simp) _
  refine ⟨Blk.at _ _ (by simp),RowAt.nil _ _ _ _,⟨(HS.out.ch (Ch.off hb2) (fun _ _ h=>h)).mono (fun b hb=>?_),MapAt.ch (MapAt.new w1) ((Ch.refl (fun _=>False) _).alloc _) (fun h=>h),⟨.inr ⟨hs1,by simp;omega⟩,by simp⟩,fun b hb=>plus0_lt b hb.1⟩,⟨.inr ⟨by omega,by simp⟩,by simp⟩,fun i hi=>by omega,HB.out.trans (hb2.mono hs1)⟩
  have hlt:=plus0_lt b hb
  refine ⟨⟨.inr ⟨hb.elim (fun e=>e.elim) (fun e=>e.1),by simp;omega⟩,?_⟩,by omega⟩
  have:b≠w1.heap.size+1:=by omega
  simp [this]
 replace H0:=Hd H0
 go_loopw [28,7,8] (fun iv _ _ wr=>∃ k:Nat,iv=.int .i64 k∧k≤cpus+1∧∃ rv ptrs c,Hid (PartQ Fifo32 222 223 1 (fun v=>#[.pointer (some ⟨sp,0,none⟩),v,.map (some w1.heap.size)]) (Beside sp 32 w1.heap.size) ([]:List Int) w wr (w1.heap.size+1) k rv ptrs c)) (fun iv _ _ _=>cpus+1 - (intOf iv).toNat)
 case atStart=>exact ⟨0,rfl,by omega,_,_,_,H0⟩
 case round =>
  clear H0 hmm;obtain ⟨k,rfl,hk,rv,ptrs,c,H⟩:=hrel
  by_cases hlt:k < cpus+1
  ·have A:=Hd (fifo_new wr 32 (by omega) (by omega))
   have c0:wr.cell? ⟨w1.heap.size+1,1,none⟩=some rv:=H.out.head.cell 1
   obtain ⟨base,cap,rfl⟩:=H.out.row.form;go_wp2_with fail;refine A.out.mono ?_;rintro e w2 ⟨⟨x,rfl,hx⟩,hb⟩
   have hz:=(H.out.head.ch (Ch.off hb) (fun h=>h))
   have c2:w2.cell? ⟨w1.heap.size+1,1,none⟩=some (.slice base k cap):=hz.cell 1
   have hrow:=fun o=>RowAt.ch H.out.row (((Ch.off hb)).alloc o) (fun _ _ h=>h)
   replace hrow:=Hd hrow;replace hx:=Hd hx;have HBb:=Hd hb;replace hz:=Hd hz;clear hb
   go_wp2_with (at_builtin;refine wpList_app rfl _ _ 198 rfl info223 underlying198 rfl (by omega) (hrow.out _) (a:=⟨w2.heap.size,0,none⟩) (m:=1) (c:=1) (news:=[.pointer (some ⟨x,0,none⟩)]) rfl rfl rfl ?_ (by simp [Value.oneCell']) (by omega) (by unfold maxLen;omega) (by omega) ?_)
   ·intro j u hj
    cases j with
    | zero =>
     have:u=.pointer (some ⟨x,0,none⟩):=by simpa using hj.symm
     subst this
     exact cell_at1 _ _ rfl
    | succ j=>simp at hj
   ·intro v' w3 h5 h6
    have hz3:=(hz.out.alloc _).ch h6 (Col.apart (by omega) _ H.out.fp)
    have c3:w3.cell? ⟨w1.heap.size+1,1,none⟩=some (.slice base k cap):=hz3.cell 1
    have f3:w3.frozen? ⟨w1.heap.size+1,1,none⟩=false:=hz3.frozen 1
    obtain ⟨base',cap',rfl⟩:=h5.form
    obtain ⟨c',hst⟩:=H.out.step ownF (beside_keeps _ _ _) (fun _ _=>rfl) hx.out HBb.out h5 h6
    replace hst:=Hd hst;clear hz3 h5 h6 hz hrow hx HBb H A;go_wp2;go_roundw
    case rel=>exact ⟨k+1,by go_num,hlt,_,_,_,hst⟩
    case measure=>simp [intOf];omega
  ·have:k=cpus+1:=by omega
   subst this;go_wp2;go_returns
   exact ⟨⟨_,rfl,H.out.multi ownF (by omega) (by omega)⟩,H.out.below⟩
structure Box where
 ids:Slot
 l:List (List Int)
structure BoxAtQ (w:World) (F:Nat→Prop) (p sp:Nat) (rv:Value) (ptrs c:Nat→Nat) (m:Box):Prop where
 head:Blk w p #[.pointer (some ⟨sp,0,none⟩),rv] 200
 ids:SlotAt w (Col F c 0) sp 32 m.ids
 row:RowAt w (Col F c 1) 223 1 rv m.l.length (ptrL ptrs m.l.length)
 fp:Col F c 3 p
 lt:∀ b,F b→b < w.heap.size
 ls:Many Fifo32 w F c 10 ptrs [] m.l
 n1:1≤m.l.length
 n64:m.l.length≤65
def BoxAt (w:World) (F:Nat→Prop) (p:Nat) (m:Box):Prop:=∃ sp rv ptrs c,BoxAtQ w F p sp rv ptrs c m
theorem BoxAtQ.at {p sp:Nat} {rv:Value} {ptrs c:Nat→Nat} {m:Box} (h:BoxAtQ w F p sp rv ptrs c m):BoxAt w F p m:=⟨sp,rv,ptrs,c,h⟩
theorem BoxAtQ.ch {F G:Nat→Prop} {p sp:Nat} {rv:Value} {ptrs c:Nat→Nat} {m:Box} (h:BoxAtQ w F p sp rv ptrs c m) (hc:Ch G w w') (hd:∀ b,F b→¬ G b):BoxAtQ w' F p sp rv ptrs c m :=
 ⟨h.head.ch hc (hd _ h.fp.1),h.ids.ch hc (fun b hb=>hd b hb.1),h.row.ch hc (fun b hb=>hd b hb.1),h.fp,fun b hb=>Nat.lt_of_lt_of_le (h.lt b hb) hc.size,h.ls.ch ownF hc hd,h.n1,h.n64⟩
theorem BoxAt.ch {F G:Nat→Prop} {m:Box} (h:BoxAt w F p m) (hc:Ch G w w') (hd:∀ b,F b→¬ G b):BoxAt w' F p m:=by
 obtain ⟨sp,rv,ptrs,c,h⟩:=h
 exact (h.ch hc hd).at
theorem BoxAt.below {m:Box} (h:BoxAt w F p m) (hb:Below w.heap.size w w'):BoxAt w' F p m:=h.ch (Ch.off hb) (fun _ _ h=>h)
theorem BoxAt.ltF {m:Box} (h:BoxAt w F p m):∀ b,F b→b < w.heap.size:=by
 obtain ⟨sp,rv,ptrs,c,h⟩:=h
 exact h.lt
theorem BoxAt.mono {F G:Nat→Prop} {m:Box} (h:BoxAt w F p m) (hd:∀ b,F b→G b) (hG:∀ b,G b→b < w.heap.size):BoxAt w G p m:=by
 obtain ⟨sp,rv,ptrs,c,h⟩:=h
 exact ⟨sp,rv,ptrs,c,h.head,h.ids.mono (fun b hb=>⟨hd b hb.1,hb.2⟩),h.row.mono (fun b hb=>⟨hd b hb.1,hb.2⟩),⟨hd _ h.fp.1,h.fp.2⟩,hG,h.ls.mono ownF hd hG,h.n1,h.n64⟩
theorem BoxAtQ.open {p sp:Nat} {rv:Value} {ptrs c:Nat→Nat} {m:Box} (h:BoxAtQ w F p sp rv ptrs c m):∃ g cap,rv=.slice (some ⟨g,0,none⟩) m.l.length cap∧m.l.length≤cap∧∀ j,j < m.l.length→w.cell? ⟨g,j,none⟩=some (.pointer (some ⟨ptrs j,0,none⟩)):=by
 obtain ⟨g,cap,h1,h2,_,_,_,h3,_⟩:=h.row.open h.n1
 exact ⟨g,cap,h1,h2,fun j hj=>h3 j _ (ptrL_get hj)⟩
theorem BoxAtQ.turn {p sp:Nat} {rv:Value} {ptrs c:Nat→Nat} {m:Box} (h:BoxAtQ w F p sp rv ptrs c m) {i:Nat} (hi:i < m.l.length) {q:List Int} (hq:Fifo32 w' (Plus w w' (Col F c (10+i))) (ptrs i) q) (hc:Ch (Col F c (10+i)) w w'):BoxAtQ w' (Plus w w' F) p sp rv ptrs (recol w c (10+i)) ⟨m.ids,m.l.set i q⟩:=by
 refine ⟨h.head.ch hc (Col.apart (by omega) _ h.fp),(h.ids.ch hc (Col.apart (by omega))).mono (Col.old h.lt),?_,Col.old h.lt _ h.fp,Plus.lt h.lt hc.size,h.ls.turn ownF h.lt hi hq hc,by simpa using h.n1,by simpa using h.n64⟩
 simp only [List.length_set]
 exact (h.row.ch hc (Col.apart (by omega))).mono (Col.old h.lt)
theorem BoxAtQ.turnIds {p sp:Nat} {rv:Value} {ptrs c:Nat→Nat} {m:Box} (h:BoxAtQ w F p sp rv ptrs c m) {s:Slot} (hs:SlotAt w' (Plus w w' (Col F c 0)) sp 32 s) (hc:Ch (Col F c 0) w w'):BoxAtQ w' (Plus w w' F) p sp rv ptrs (recol w c 0) ⟨s,m.l⟩ :=
 ⟨h.head.ch hc (Col.apart (by omega) _ h.fp),hs.mono (Col.new h.lt),(h.row.ch hc (Col.apart (by omega))).mono (Col.old h.lt),Col.old h.lt _ h.fp,Plus.lt h.lt hc.size,h.ls.other ownF h.lt (by omega) hc,h.n1,h.n64⟩
theorem BoxAtQ.cells {p sp:Nat} {rv:Value} {ptrs c:Nat→Nat} {m:Box} (h:BoxAtQ w F p sp rv ptrs c m):w.cell? ⟨p,0,none⟩=some (.pointer (some ⟨sp,0,none⟩))∧w.cell? ⟨p,1,none⟩=some rv:=⟨h.head.cell 0,h.head.cell 1⟩
theorem bmay_one (w:World) {m:Box} (h:BoxAt w F p m) (cpu:Int) (b cap:Nat) (hb:w.cell? ⟨b,0,none⟩=some (.int .i64 cpu)):Calls prog 176 #[.pointer (some ⟨p,0,none⟩),.slice (some ⟨b,0,none⟩) 1 cap] w fun e w'=>e=.returned (.int .i64 (mayF m.l.length cpu))∧w=w':=by
 obtain ⟨sp,rv,ptrs,c,h⟩:=h;obtain ⟨g,gc,rfl,-,-⟩:=h.open
 have c1:w.cell? ⟨p,1,none⟩=some (.slice (some ⟨g,0,none⟩) m.l.length gc):=h.head.cell 1
 clear h;generalize m.l.length=n at *
 rcases may_cases n cpu with ⟨h1,e⟩ | ⟨h1,h2,e⟩ | ⟨i,rfl,h2,e⟩
 ·rw [e]
  clear e
  go_enter func176,ntmps176
  go_wp2
  refine wp_loop_rounds 2 ?_
  rw [rounds_succ];go_wp2;go_returns
  exact ⟨rfl,rfl⟩
 ·rw [e]
  clear e
  go_enter func176,ntmps176
  go_wp2
  refine wp_loop_rounds 2 ?_
  rw [rounds_succ];go_wp2;go_returns
  exact ⟨rfl,rfl⟩
 ·rw [e]
  clear e
  go_enter func176,ntmps176
  go_wp2
  refine wp_loop_rounds 2 ?_
  rw [rounds_succ];go_wp2;rw [rounds_succ];go_wp2;go_returns
  exact ⟨rfl,rfl⟩
theorem bmay_two (w:World) {m:Box} (h:BoxAt w F p m) (x y:Int) (b cap:Nat) (hb:w.cell? ⟨b,0,none⟩=some (.int .i64 x)) (hb2:w.cell? ⟨b,1,none⟩=some (.int .i64 y)):Calls prog 176 #[.pointer (some ⟨p,0,none⟩),.slice (some ⟨b,0,none⟩) 2 cap] w fun e w'=>e=.returned (.int .i64 (may2 m.l.length x y))∧w=w':=by
 obtain ⟨sp,rv,ptrs,c,h⟩:=h;obtain ⟨g,gc,rfl,-,-⟩:=h.open
 have c1:w.cell? ⟨p,1,none⟩=some (.slice (some ⟨g,0,none⟩) m.l.length gc):=h.head.cell 1
 clear h;unfold may2;generalize m.l.length=n at *
 rcases may_cases n x with ⟨h1,e⟩ | ⟨h1,h2,e⟩ | ⟨i,rfl,h2,e⟩
 ·rw [e,if_pos (by decide)]
  clear e
  go_enter func176,ntmps176
  go_wp2
  refine wp_loop_rounds 3 ?_
  rw [rounds_succ];go_wp2;go_returns
  exact ⟨rfl,rfl⟩
 ·rw [e,if_pos (by decide)]
  clear e
  go_enter func176,ntmps176
  go_wp2
  refine wp_loop_rounds 3 ?_
  rw [rounds_succ];go_wp2;go_returns
  exact ⟨rfl,rfl⟩
 ·rw [e,if_neg (by decide)]
  clear e
  rcases may_cases n y with ⟨h3,e⟩ | ⟨h3,h4,e⟩ | ⟨j,rfl,h4,e⟩
  ·rw [e]
   clear e
   go_enter func176,ntmps176
   go_wp2
   refine wp_loop_rounds 3 ?_
   rw [rounds_succ];go_wp2;rw [rounds_succ];go_wp2;go_returns
   exact ⟨rfl,rfl⟩
  ·rw [e]
   clear e
   go_enter func176,ntmps176
   go_wp2
   refine wp_loop_rounds 3 ?_
   rw [rounds_succ];go_wp2;rw [rounds_succ];go_wp2;go_returns
   exact ⟨rfl,rfl⟩
  ·rw [e]
   clear e
   go_enter func176,ntmps176
   go_wp2
   refine wp_loop_rounds 3 ?_
   rw [rounds_succ];go_wp2;rw [rounds_succ];go_wp2;rw [rounds_succ];go_wp2;go_returns
   exact ⟨rfl,rfl⟩
def boxList (m:Box) (cpu:Int):List Int:=if mayF m.l.length cpu≠0 then [] else m.l.getD cpu.toNat []
theorem blist_any (w:World) {m:Box} (h:BoxAt w F p m) (cpu:Int):Calls prog 93 #[.pointer (some ⟨p,0,none⟩),.int .i64 cpu] w fun e w'=>(∃ v,e=.returned v∧IntsAt w' (New w) v (boxList m cpu))∧Below w.heap.size w w':=by
 have hb0:Below w.heap.size w (w.alloc (.cells #[.int .i64 cpu] 3)):=(Below.refl _ _).alloc (Nat.le_refl _) _
 replace h:=h.below hb0
 have A:=Hd (bmay_one _ h cpu w.heap.size 1 (cell_at1 _ _ rfl))
 obtain ⟨sp,rv,ptrs,c,h⟩:=h;obtain ⟨g,gc,rfl,hle,hg⟩:=h.open
 have c1:(w.alloc (.cells #[.int .i64 cpu] 3)).cell? ⟨p,1,none⟩=some (.slice (some ⟨g,0,none⟩) m.l.length gc):=h.head.cell 1
 unfold boxList
 by_cases hm:mayF m.l.length cpu=0
 ·obtain ⟨i,rfl,hi⟩:=may_yes hm
  have B:=Hd (qlist_any _ _ _ 32 _ (h.ls i hi))
  have ci:=hg i hi
  rw [hm] at A
  simp only [hm,Int.toNat_natCast,ne_eq,not_true,if_false]
  obtain ⟨n,hn⟩:∃ n,n=m.l.length:=⟨_,rfl⟩
  rw [← hn] at c1 hi hle;clear h hg hm hn;generalize m.l.getD i []=L at *;replace hb0:=Hd hb0
  go_enter func93,ntmps93
  go_wp2_with fail;refine A.out.mono ?_;rintro e w1 ⟨rfl,rfl⟩;go_wp2_with fail;refine B.out.mono ?_;rintro e w1 ⟨⟨v,rfl,hv⟩,hb⟩
  obtain ⟨b,cap,rfl⟩:=RowAt.form hv
  replace hv:=Hd hv
  replace hb:=Hd (hb0.out.trans (hb.mono hb0.out.size))
  go_wp2;go_returns
  exact ⟨⟨_,rfl,hv.out.mono (fun b hb=>by unfold New at *;simp at hb;omega)⟩,hb.out⟩
 ·have e:=may_no hm
  rw [e] at A;rw [if_pos hm];clear h hg hm e;replace hb0:=Hd hb0
  go_enter func93,ntmps93
  go_wp2_with fail;refine A.out.mono ?_;rintro e w1 ⟨rfl,rfl⟩;go_wp2;go_returns
  exact ⟨⟨_,rfl,IntsAt.nil _ _⟩,hb0.out⟩
def boxLoad (m:Box) (cpu:Int):Int:=((boxList m cpu).length:Nat)
theorem bload_any (w:World) {m:Box} (h:BoxAt w F p m) (cpu:Int):Calls prog 22 #[.pointer (some ⟨p,0,none⟩),.int .i64 cpu] w fun e w'=>e=.returned (.int .i64 (boxLoad m cpu))∧Below w.heap.size w w':=by
 have C:=Hd (blist_any w h cpu);unfold boxLoad;clear h;generalize boxList m cpu=L at *
 go_enter func22,ntmps22
 go_wp2_with fail;refine C.out.mono ?_;rintro e w1 ⟨⟨v,rfl,hv⟩,hb⟩
 obtain ⟨b,cap,rfl⟩:=RowAt.form hv
 replace hb:=Hd hb;clear hv;go_wp2;go_returns
 exact ⟨rfl,hb.out⟩
theorem BoxAt.fin {m:Box} (h:BoxAt w F p m) (hb:Below w.heap.size w w'):BoxAt w' (Plus w w' F) p m∧Ch F w w':=⟨(h.below hb).mono Plus.sub (Plus.lt h.ltF hb.size),Ch.of_below hb⟩
theorem BoxAt.since {w w1 w2:World} {m:Box} (hF:∀ b,F b→b < w.heap.size) (hb:Below w.heap.size w w1) (h:BoxAt w2 (Plus w1 w2 F) p m) (hc:Ch F w1 w2):BoxAt w2 (Plus w w2 F) p m∧Ch F w w2 :=
 ⟨h.mono (Plus.cover hb.size) (fun b hb'=>hb'.elim (fun e=>by have:=hF b e;have:=hb.size;have:=hc.size;omega) (fun e=>e.2)),(Ch.of_below hb).trans hc⟩
def boxSendTo (m:Box) (i:Nat) (s:Slot × Int × Int):Box × Int × Int:=(⟨s.1,m.l.set i (pushF 32 (m.l.getD i []) s.2.1).1⟩,s.2.1,(pushF 32 (m.l.getD i []) s.2.1).2)
def boxSend (m:Box) (cpu:Int):Box × Int × Int :=
 if mayF m.l.length cpu≠0 then (m,0,3) else
 if (slotTake 32 m.ids).2.2≠0 then (⟨(slotTake 32 m.ids).1,m.l⟩,0,(slotTake 32 m.ids).2.2) else
 boxSendTo m cpu.toNat (slotTake 32 m.ids)
theorem bsend_any (w:World) (hT:Tab w) {m:Box} (h:BoxAt w F p m) (cpu:Int):Calls prog 157 #[.pointer (some ⟨p,0,none⟩),.int .i64 cpu] w fun e w'=>e=.returned (.tuple #[.int .i64 (boxSend m cpu).2.1,.int .i64 (boxSend m cpu).2.2])∧BoxAt w' (Plus w w' F) p (boxSend m cpu).1∧Ch F w w':=by
 have hb0:Below w.heap.size w (w.alloc (.cells #[.int .i64 cpu] 3)):=(Below.refl _ _).alloc (Nat.le_refl _) _
 have hT1:Tab (w.alloc (.cells #[.int .i64 cpu] 3)):=fun i hi=>keepcell hb0 (hT i hi)
 have HW:=Hd h
 replace h:=h.below hb0
 have A:=Hd (bmay_one _ h cpu w.heap.size 1 (cell_at1 _ _ rfl))
 obtain ⟨sp,rv,ptrs,c,h⟩:=h;obtain ⟨g,gc,rfl,hle,hg⟩:=h.open;obtain ⟨c0,c1⟩:=h.cells;unfold boxSend
 by_cases hm:mayF m.l.length cpu=0
 ·rw [if_neg (by simp [hm])]
  rw [hm] at A;have B:=Hd (slot_take _ h.ids hT1)
  have hids:=fun (w2:World) (hs:SlotAt w2 _ sp 32 (slotTake 32 m.ids).1) (hc:Ch (Col F c 0) (w.alloc (.cells #[.int .i64 cpu] 3)) w2)=>h.turnIds hs hc
  replace hids:=Hd hids
  obtain ⟨i,rfl,hi⟩:=may_yes hm
  simp only [Int.toNat_natCast]
  obtain ⟨T,hT'⟩:∃ T,T=slotTake 32 m.ids:=⟨_,rfl⟩
  rw [← hT'] at B hids ⊢;obtain ⟨s1,id,why⟩:=T;dsimp only at B hids ⊢
  obtain ⟨n,hn⟩:∃ n,n=m.l.length:=⟨_,rfl⟩
  rw [← hn] at c1 hle
  have hin:i < n:=by omega
  replace hn:=Hd hn;replace hi:=Hd hi;replace hb0:=Hd hb0;clear h hg hm hT'
  by_cases hw:why=0
  ·subst hw
   rw [if_neg (by simp)];unfold boxSendTo;dsimp only
   obtain ⟨D0,hD0⟩:∃ x,x=pushF 32 (m.l.getD i []) id:=⟨_,rfl⟩
   rw [← hD0];replace hD0:=Hd hD0
   obtain ⟨M,hM⟩:∃ M:Box,M=⟨s1,m.l.set i D0.1⟩:=⟨_,rfl⟩
   rw [← hM];replace hM:=Hd hM
   go_enter func157,ntmps157
   go_wp2_with fail;refine A.out.mono ?_;rintro e w1 ⟨rfl,rfl⟩;go_wp2_with fail;refine B.out.mono ?_;rintro e w2 ⟨rfl,h1,h2⟩
   have X2:=hids.out w2 h1 h2
   have D:=push_any _ _ _ 32 _ (X2.ls i hi.out) id
   have hge:(⟨s1,m.l⟩:Box).l.getD i []=m.l.getD i []:=rfl
   rw [hge,← hD0.out] at D;replace D:=Hd D;obtain ⟨d0,d1⟩:=X2.cells;obtain ⟨g2,gc2,hrv,-,hg2⟩:=X2.open
   have dg:=hg2 i hi.out
   rw [slice_base hrv] at dg
   have d1':w2.cell? ⟨p,1,none⟩=some (.slice (some ⟨g,0,none⟩) n gc):=by rw [d1,hn.out]
   replace X2:=Hd X2;replace h2:=Hd h2;clear h1 c0 c1 hge d1 hg2 hrv;go_wp2_with fail;refine D.out.mono ?_;rintro e w4 ⟨rfl,h5,h6⟩;replace h5:=Hd h5;replace h6:=Hd h6;go_wp2;go_returns
   have X4:=X2.out.turn (i:=i) hi.out h5.out h6.out
   rw [hM.out,Plus.plus h2.out.size h6.out.size] at *
   exact ⟨rfl,BoxAt.since HW.out.ltF hb0.out X4.at ((h2.out.mono (fun _ _ h=>h.1)).then h6.out (fun b hb e=>e.1.elim (fun e=>e) (fun e=>by have:=e.1;omega)))⟩
  ·rw [if_pos hw]
   have hw':(why != 0)=true:=by simpa using hw
   clear hw
   go_enter func157,ntmps157
   go_wp2_with fail;refine A.out.mono ?_;rintro e w1 ⟨rfl,rfl⟩;go_wp2_with fail;refine B.out.mono ?_;rintro e w2 ⟨rfl,h1,h2⟩
   have X2:=hids.out w2 h1 h2
   replace X2:=Hd X2;replace h2:=Hd h2;clear h1;go_wp2;go_returns
   exact ⟨rfl,BoxAt.since HW.out.ltF hb0.out X2.out.at (h2.out.mono (fun _ _ h=>h.1))⟩
 ·have e:=may_no hm
  rw [if_pos hm];rw [e] at A;replace hb0:=Hd hb0;clear h hg hm e hle c0 c1
  go_enter func157,ntmps157
  go_wp2_with fail;refine A.out.mono ?_;rintro e w1 ⟨rfl,rfl⟩;go_wp2;go_returns
  exact ⟨rfl,HW.out.fin hb0.out⟩
def boxTakeTo (m:Box) (i:Nat) (q:List Int × Int × Int):Box × Int × Int:=(⟨(slotGive 32 m.ids q.2.1).1,m.l.set i q.1⟩,q.2.1,(slotGive 32 m.ids q.2.1).2)
def boxTake (m:Box) (cpu:Int):Box × Int × Int :=
 if mayF m.l.length cpu≠0 then (m,0,3) else
 if (popF (m.l.getD cpu.toNat [])).2.2≠0 then (⟨m.ids,m.l.set cpu.toNat (popF (m.l.getD cpu.toNat [])).1⟩,0,(popF (m.l.getD cpu.toNat [])).2.2) else
 boxTakeTo m cpu.toNat (popF (m.l.getD cpu.toNat []))
theorem btake_any (w:World) {m:Box} (h:BoxAt w F p m) (cpu:Int):Calls prog 201 #[.pointer (some ⟨p,0,none⟩),.int .i64 cpu] w fun e w'=>e=.returned (.tuple #[.int .i64 (boxTake m cpu).2.1,.int .i64 (boxTake m cpu).2.2])∧BoxAt w' (Plus w w' F) p (boxTake m cpu).1∧Ch F w w':=by
 have hb0:Below w.heap.size w (w.alloc (.cells #[.int .i64 cpu] 3)):=(Below.refl _ _).alloc (Nat.le_refl _) _
 have HW:=Hd h
 replace h:=h.below hb0
 have A:=Hd (bmay_one _ h cpu w.heap.size 1 (cell_at1 _ _ rfl))
 obtain ⟨sp,rv,ptrs,c,h⟩:=h;obtain ⟨g,gc,rfl,hle,hg⟩:=h.open;obtain ⟨c0,c1⟩:=h.cells;unfold boxTake
 by_cases hm:mayF m.l.length cpu=0
 ·rw [if_neg (by simp [hm])]
  rw [hm] at A
  obtain ⟨i,rfl,hi⟩:=may_yes hm
  simp only [Int.toNat_natCast]
  have B:=pop_any _ _ _ 32 _ (h.ls i hi)
  have ci:=hg i hi
  obtain ⟨T,hT'⟩:∃ T,T=popF (m.l.getD i []):=⟨_,rfl⟩
  rw [← hT'] at B ⊢;obtain ⟨q1,id,why⟩:=T;dsimp only at B ⊢;replace B:=Hd B
  obtain ⟨n,hn⟩:∃ n,n=m.l.length:=⟨_,rfl⟩
  rw [← hn] at c1 hle
  have hin:i < n:=by omega
  replace hn:=Hd hn;replace hi:=Hd hi;replace hb0:=Hd hb0;have hX:=Hd h;clear h hg hm hT'
  by_cases hw:why=0
  ·subst hw
   rw [if_neg (by simp)];unfold boxTakeTo;dsimp only
   obtain ⟨D0,hD0⟩:∃ x,x=slotGive 32 m.ids id:=⟨_,rfl⟩
   rw [← hD0];replace hD0:=Hd hD0
   obtain ⟨M,hM⟩:∃ M:Box,M=⟨D0.1,m.l.set i q1⟩:=⟨_,rfl⟩
   rw [← hM];replace hM:=Hd hM
   go_enter func201,ntmps201
   go_wp2_with fail;refine A.out.mono ?_;rintro e w1 ⟨rfl,rfl⟩;go_wp2_with fail;refine B.out.mono ?_;rintro e w2 ⟨rfl,h1,h2,h3⟩
   have X2:=hX.out.turn (i:=i) hi.out (FifoAt.mono h1 Plus.sub) h2
   have D:=slot_give _ X2.ids id
   have hge:(⟨m.ids,m.l.set i q1⟩:Box).ids=m.ids:=rfl
   rw [hge,← hD0.out] at D;replace D:=Hd D;obtain ⟨d0,d1⟩:=X2.cells;replace X2:=Hd X2;replace h2:=Hd h2;replace h3:=Hd h3;clear h1 c0 c1 hge d1 ci;go_wp2_with fail;refine D.out.mono ?_;rintro e w4 ⟨rfl,h5,h6⟩;replace h5:=Hd h5;replace h6:=Hd h6;go_wp2;go_returns
   have X4:=X2.out.turnIds h5.out h6.out
   rw [hM.out,Plus.plus h2.out.size h6.out.size] at *
   exact ⟨rfl,BoxAt.since HW.out.ltF hb0.out X4.at ((h2.out.mono (fun _ _ h=>h.1)).then h6.out (fun b hb e=>e.1.elim (fun e=>e) (fun e=>by have:=e.1;omega)))⟩
  ·rw [if_pos hw]
   have hw':(why != 0)=true:=by simpa using hw
   clear hw
   go_enter func201,ntmps201
   go_wp2_with fail;refine A.out.mono ?_;rintro e w1 ⟨rfl,rfl⟩;go_wp2_with fail;refine B.out.mono ?_;rintro e w2 ⟨rfl,h1,h2,h3⟩
   have X2:=Hd (hX.out.turn (i:=i) hi.out (FifoAt.mono h1 Plus.sub) h2)
   replace h2:=Hd h2;clear h1 h3;go_wp2;go_returns
   exact ⟨rfl,BoxAt.since HW.out.ltF hb0.out X2.out.at (h2.out.mono (fun _ _ h=>h.1))⟩
 ·have e:=may_no hm
  rw [if_pos hm];rw [e] at A;replace hb0:=Hd hb0;clear h hg hm e hle c0 c1
  go_enter func201,ntmps201
  go_wp2_with fail;refine A.out.mono ?_;rintro e w1 ⟨rfl,rfl⟩;go_wp2;go_returns
  exact ⟨rfl,HW.out.fin hb0.out⟩
def boxMoveTo (m:Box) (i j:Nat) (q:List Int × Int × Int):Box × Int × Int:=(⟨m.ids,(m.l.set i q.1).set j (pushF 32 ((m.l.set i q.1).getD j []) q.2.1).1⟩,q.2.1,(pushF 32 ((m.l.set i q.1).getD j []) q.2.1).2)
def boxMove (m:Box) (a b:Int):Box × Int × Int :=
 if may2 m.l.length a b≠0 then (m,0,may2 m.l.length a b) else if a=b then (m,0,2) else
 if (popF (m.l.getD a.toNat [])).2.2≠0 then (⟨m.ids,m.l.set a.toNat (popF (m.l.getD a.toNat [])).1⟩,0,(popF (m.l.getD a.toNat [])).2.2) else
 boxMoveTo m a.toNat b.toNat (popF (m.l.getD a.toNat []))
theorem bmove_any (w:World) {m:Box} (h:BoxAt w F p m) (a b:Int):Calls prog 318 #[.pointer (some ⟨p,0,none⟩),.int .i64 a,.int .i64 b] w fun e w'=>e=.returned (.tuple #[.int .i64 (boxMove m a b).2.1,.int .i64 (boxMove m a b).2.2])∧BoxAt w' (Plus w w' F) p (boxMove m a b).1∧Ch F w w':=by
 have hb0:Below w.heap.size w (w.alloc (.cells #[.int .i64 a,.int .i64 b] 3)):=(Below.refl _ _).alloc (Nat.le_refl _) _
 have HW:=Hd h
 replace h:=h.below hb0
 have A:=Hd (bmay_two _ h a b w.heap.size 2 ((Blk.new w #[.int .i64 a,.int .i64 b] 3).cell 0) ((Blk.new w #[.int .i64 a,.int .i64 b] 3).cell 1))
 obtain ⟨sp,rv,ptrs,c,h⟩:=h;obtain ⟨g,gc,rfl,hle,hg⟩:=h.open;obtain ⟨c0,c1⟩:=h.cells;unfold boxMove;generalize hmy:may2 m.l.length a b=my at *
 by_cases hm:my=0
 ·subst hm
  rw [if_neg (by simp)]
  obtain ⟨⟨i,rfl,hi⟩,⟨j,rfl,hj⟩⟩:=may2_yes hmy
  replace hb0:=Hd hb0
  by_cases hab:(i:Int)=(j:Int)
  ·rw [if_pos hab]
   have hab':((i:Int) == (j:Int))=true:=by simpa using hab
   clear h hab hmy hg
   go_enter func318,ntmps318
   go_wp2_with fail;refine A.out.mono ?_;rintro e w1 ⟨rfl,rfl⟩;go_wp2;go_returns
   exact ⟨rfl,HW.out.fin hb0.out⟩
  ·rw [if_neg hab]
   have hab':((i:Int) == (j:Int))=false:=by simpa using hab
   simp only [Int.toNat_natCast]
   have B:=pop_any _ _ _ 32 _ (h.ls i hi)
   have ci:=hg i hi
   obtain ⟨T,hT'⟩:∃ T,T=popF (m.l.getD i []):=⟨_,rfl⟩
   rw [← hT'] at B ⊢;obtain ⟨q1,id,why⟩:=T;dsimp only at B ⊢;replace B:=Hd B
   obtain ⟨n,hn⟩:∃ n,n=m.l.length:=⟨_,rfl⟩
   rw [← hn] at c1 hle
   have hin:i < n:=by omega
   have hjn:j < n:=by omega
   replace hn:=Hd hn;replace hi:=Hd hi;replace hj:=Hd hj;have hX:=Hd h;clear h hg hT' hmy hab
   by_cases hw:why=0
   ·subst hw
    rw [if_neg (by simp)];unfold boxMoveTo;dsimp only
    obtain ⟨D0,hD0⟩:∃ x,x=pushF 32 ((m.l.set i q1).getD j []) id:=⟨_,rfl⟩
    rw [← hD0];replace hD0:=Hd hD0
    obtain ⟨M,hM⟩:∃ M:Box,M=⟨m.ids,(m.l.set i q1).set j D0.1⟩:=⟨_,rfl⟩
    rw [← hM];replace hM:=Hd hM
    go_enter func318,ntmps318
    go_wp2_with fail;refine A.out.mono ?_;rintro e w1 ⟨rfl,rfl⟩;go_wp2_with fail;refine B.out.mono ?_;rintro e w2 ⟨rfl,h1,h2,h3⟩
    have X2:=hX.out.turn (i:=i) hi.out (FifoAt.mono h1 Plus.sub) h2
    have hjl:j < (m.l.set i q1).length:=by rw [List.length_set];exact hj.out
    have D:=push_any _ _ _ 32 _ (X2.ls j hjl) id
    have hge:(⟨m.ids,m.l.set i q1⟩:Box).l.getD j []=(m.l.set i q1).getD j []:=rfl
    rw [hge,← hD0.out] at D;replace D:=Hd D;obtain ⟨d0,d1⟩:=X2.cells;obtain ⟨g2,gc2,hrv,-,hg2⟩:=X2.open
    have dg:=hg2 j hjl
    rw [slice_base hrv] at dg
    have d1':w2.cell? ⟨p,1,none⟩=some (.slice (some ⟨g,0,none⟩) n gc):=by rw [d1,hn.out];try simp
    replace X2:=Hd X2;replace h2:=Hd h2;replace h3:=Hd h3;replace hjl:=Hd hjl;clear h1 c0 c1 hge d1 hg2 hrv ci;go_wp2_with fail;refine D.out.mono ?_;rintro e w4 ⟨rfl,h5,h6⟩;replace h5:=Hd h5;replace h6:=Hd h6;go_wp2;go_returns
    have X4:=X2.out.turn (i:=j) hjl.out h5.out h6.out
    rw [hM.out,Plus.plus h2.out.size h6.out.size] at *
    exact ⟨rfl,BoxAt.since HW.out.ltF hb0.out X4.at ((h2.out.mono (fun _ _ h=>h.1)).then h6.out (fun b hb e=>e.1.elim (fun e=>e) (fun e=>by have:=e.1;omega)))⟩
   ·rw [if_pos hw]
    have hw':(why != 0)=true:=by simpa using hw
    clear hw
    go_enter func318,ntmps318
    go_wp2_with fail;refine A.out.mono ?_;rintro e w1 ⟨rfl,rfl⟩;go_wp2_with fail;refine B.out.mono ?_;rintro e w2 ⟨rfl,h1,h2,h3⟩
    have X2:=Hd (hX.out.turn (i:=i) hi.out (FifoAt.mono h1 Plus.sub) h2)
    replace h2:=Hd h2;clear h1 h3;go_wp2;go_returns
    exact ⟨rfl,BoxAt.since HW.out.ltF hb0.out X2.out.at (h2.out.mono (fun _ _ h=>h.1))⟩
 ·rw [if_pos hm]
  have hm':(my != 0)=true:=by simpa using hm
  replace hb0:=Hd hb0;clear h hm hmy hg
  go_enter func318,ntmps318
  go_wp2_with fail;refine A.out.mono ?_;rintro e w1 ⟨rfl,rfl⟩;go_wp2;go_returns
  exact ⟨rfl,HW.out.fin hb0.out⟩
def BesideS (sp most:Nat) (w:World) (F:Nat→Prop):Prop:=SlotAt w F sp most ⟨0,0⟩∧∀ b,F b→b < w.heap.size
theorem besideS_keeps (sp most:Nat):Keeps (BesideS sp most) :=
 ⟨fun h hc hd=>⟨h.1.ch hc hd,fun b hb=>Nat.lt_of_lt_of_le (h.2 b hb) hc.size⟩,fun h hd hG=>⟨h.1.mono hd,hG⟩⟩
theorem PartQ.box {sp:Nat} {p k:Nat} {rv:Value} {ptrs c:Nat→Nat} (h:PartQ Fifo32 200 223 1 (fun v=>#[.pointer (some ⟨sp,0,none⟩),v]) (BesideS sp 32) ([]:List Int) w w' p k rv ptrs c) (h1:1≤k) (h2:k≤65) :
  BoxAt w' (Plus w w' (fun _=>False)) p ⟨⟨0,0⟩,List.replicate k []⟩:=by
 refine ⟨sp,rv,ptrs,c,h.head,h.rest.1,?_,h.fp,plus0_lt,fun i hi=>?_,by simpa using h1,by simpa using h2⟩
 ·simp only [List.length_replicate]
  exact h.row
 ·have hi':i < k:=by simpa using hi
  have e:(List.replicate k ([]:List Int)).getD i []=[]:=by simp [hi']
  show Fifo32 w' _ _ ((List.replicate k []).getD i [])
  rw [e]
  exact h.ls i hi'
def box0 (cpus:Nat):Box:=⟨⟨0,0⟩,List.replicate cpus []⟩
theorem box_new (w:World) (cpus:Nat) (h1:1≤cpus) (h64:cpus≤64):Calls prog 62 #[.int .i64 cpus] w fun e w'=>(∃ p,e=.returned (.tuple #[.pointer (some ⟨p,0,none⟩),.int .i64 0])∧BoxAt w' (Plus w w' (fun _=>False)) p (box0 cpus))∧Below w.heap.size w w':=by
 have S:=Hd (slot_new w 32 (by omega) (by omega))
 go_enter func62,ntmps62
 go_wp2_with fail;refine S.out.mono ?_;rintro e w1 ⟨⟨sp,rfl,hs⟩,hb⟩;have hs1:=hb.size;have HS:=Hd hs;have HB:=Hd hb;clear hs hb;go_wp2
 have H0:PartQ Fifo32 200 223 1 (fun v=>#[.pointer (some ⟨sp,0,none⟩),v]) (BesideS sp 32) ([]:List Int) w (w1.alloc (.cells #[.pointer (some ⟨sp,0,none⟩),.slice none 0 0] 200)) (w1.heap.size) 0 (.slice none 0 0) (fun _=>0) (fun b=>if b=w1.heap.size then 3 else 0):=by
  have hb2:Below w1.heap.size w1 (w1.alloc (.cells #[.pointer (some ⟨sp,0,none⟩),.slice none 0 0] 200)):=(Below.refl _ _).alloc (Nat.le_refl _) _
  refine ⟨Blk.at _ _ (by simp),RowAt.nil _ _ _ _,⟨(HS.out.ch (Ch.off hb2) (fun _ _ h=>h)).mono (fun b hb=>?_),fun b hb=>plus0_lt b hb.1⟩,⟨.inr ⟨by omega,by simp⟩,by simp⟩,fun i hi=>by omega,HB.out.trans (hb2.mono hs1)⟩
  have hlt:=plus0_lt b hb
  refine ⟨.inr ⟨hb.elim (fun e=>e.elim) (fun e=>e.1),by simp;omega⟩,?_⟩
  have:b≠w1.heap.size:=by omega
  simp [this]
 replace H0:=Hd H0
 go_loopw [27,7,8] (fun iv _ _ wr=>∃ k:Nat,iv=.int .i64 k∧k≤cpus∧∃ rv ptrs c,Hid (PartQ Fifo32 200 223 1 (fun v=>#[.pointer (some ⟨sp,0,none⟩),v]) (BesideS sp 32) ([]:List Int) w wr (w1.heap.size) k rv ptrs c)) (fun iv _ _ _=>cpus - (intOf iv).toNat)
 case atStart=>exact ⟨0,rfl,by omega,_,_,_,H0⟩
 case round =>
  clear H0;obtain ⟨k,rfl,hk,rv,ptrs,c,H⟩:=hrel
  by_cases hlt:k < cpus
  ·have A:=Hd (fifo_new wr 32 (by omega) (by omega))
   have c0:wr.cell? ⟨w1.heap.size,1,none⟩=some rv:=H.out.head.cell 1
   obtain ⟨base,cap,rfl⟩:=H.out.row.form;go_wp2_with fail;refine A.out.mono ?_;rintro e w2 ⟨⟨x,rfl,hx⟩,hb⟩
   have hz:=(H.out.head.ch (Ch.off hb) (fun h=>h))
   have c2:w2.cell? ⟨w1.heap.size,1,none⟩=some (.slice base k cap):=hz.cell 1
   have hrow:=fun o=>RowAt.ch H.out.row (((Ch.off hb)).alloc o) (fun _ _ h=>h)
   replace hrow:=Hd hrow;replace hx:=Hd hx;have HBb:=Hd hb;replace hz:=Hd hz;clear hb
   go_wp2_with (at_builtin;refine wpList_app rfl _ _ 198 rfl info223 underlying198 rfl (by omega) (hrow.out _) (a:=⟨w2.heap.size,0,none⟩) (m:=1) (c:=1) (news:=[.pointer (some ⟨x,0,none⟩)]) rfl rfl rfl ?_ (by simp [Value.oneCell']) (by omega) (by unfold maxLen;omega) (by omega) ?_)
   ·intro j u hj
    cases j with
    | zero =>
     have:u=.pointer (some ⟨x,0,none⟩):=by simpa using hj.symm
     subst this
     exact cell_at1 _ _ rfl
    | succ j=>simp at hj
   ·intro v' w3 h5 h6
    have hz3:=(hz.out.alloc _).ch h6 (Col.apart (by omega) _ H.out.fp)
    have c3:w3.cell? ⟨w1.heap.size,1,none⟩=some (.slice base k cap):=hz3.cell 1
    have f3:w3.frozen? ⟨w1.heap.size,1,none⟩=false:=hz3.frozen 1
    obtain ⟨base',cap',rfl⟩:=h5.form
    obtain ⟨c',hst⟩:=H.out.step ownF (besideS_keeps _ _) (fun _ _=>rfl) hx.out HBb.out h5 h6
    replace hst:=Hd hst;clear hz3 h5 h6 hz hrow hx HBb H A;go_wp2;go_roundw
    case rel=>exact ⟨k+1,by go_num,hlt,_,_,_,hst⟩
    case measure=>simp [intOf];omega
  ·have:k=cpus:=by omega
   subst this;go_wp2;go_returns
   exact ⟨⟨_,rfl,H.out.box h1 (by omega)⟩,H.out.below⟩
structure Route where
 l:List Int
 cpus:Nat
structure RouteAt (w:World) (F:Nat→Prop) (p:Nat) (r:Route):Prop where
 head:Blk w p (r.l.map (Value.int .i64)++[Value.int .i64 r.cpus]).toArray 220
 fp:F p
 len:r.l.length=16
 ok:∀ x∈r.l,0≤x∧x≤64
 n64:r.cpus≤64
theorem RouteAt.ch {F G:Nat→Prop} {r:Route} (h:RouteAt w F p r) (hc:Ch G w w') (hd:∀ b,F b→¬ G b):RouteAt w' F p r:=⟨h.head.ch hc (hd _ h.fp),h.fp,h.len,h.ok,h.n64⟩
theorem RouteAt.mono {F G:Nat→Prop} {r:Route} (h:RouteAt w F p r) (hd:∀ b,F b→G b):RouteAt w G p r:=⟨h.head,hd _ h.fp,h.len,h.ok,h.n64⟩
theorem RouteAt.below {r:Route} (h:RouteAt w F p r) (hb:Below w.heap.size w w'):RouteAt w' F p r:=h.ch (Ch.off hb) (fun _ _ h=>h)
theorem RouteAt.cell {r:Route} (h:RouteAt w F p r) {i:Nat} (hi:i < 16):w.cell? ⟨p,i,none⟩=some (.int .i64 (r.l.getD i 0)):=by
 have hi2:i < r.l.length:=by rw [h.len];exact hi
 rw [h.head.cell,List.getElem?_toArray,List.getElem?_append_left (by rw [List.length_map];exact hi2),List.getElem?_map,getD_some (d:=0) hi2]
 rfl
theorem RouteAt.cc {r:Route} (h:RouteAt w F p r):w.cell? ⟨p,16,none⟩=some (.int .i64 r.cpus):=by
 rw [h.head.cell,List.getElem?_toArray,List.getElem?_append_right (by rw [List.length_map,h.len];omega),List.length_map,h.len]
 rfl
theorem RouteAt.bound {r:Route} (h:RouteAt w F p r) {i:Nat} (hi:i < 16):0≤r.l.getD i 0∧r.l.getD i 0≤64:=by
 have hi2:i < r.l.length:=by rw [h.len];exact hi
 exact h.ok _ (List.mem_of_getElem? (getD_some (d:=0) hi2))
theorem RouteAt.set {r:Route} (h:RouteAt w F p r) {i:Nat} (hi:i < 16) (v:Int) (hv:0≤v∧v≤64):RouteAt (w.setCell ⟨p,i,none⟩ (.int .i64 v)) F p ⟨r.l.set i v,r.cpus⟩:=by
 refine ⟨?_,h.fp,by simpa using h.len,fun x hx=>(List.mem_or_eq_of_mem_set hx).elim (h.ok x) (fun e=>e ▸ hv),h.n64⟩
 have:=h.head.set i (.int .i64 v)
 rw [List.setIfInBounds_toArray,List.set_append_left _ _ (by rw [List.length_map,h.len];exact hi),← List.map_set] at this
 exact this
theorem omay_any (w:World) (p:Nat) (n:Int):Calls prog 179 #[.pointer (some ⟨p,0,none⟩),.int .i64 n] w fun e w'=>e=.returned (.int .i64 (mayF 16 n))∧w=w':=by
 rcases may_cases 16 n with ⟨h1,e⟩ | ⟨h1,h2,e⟩ | ⟨i,rfl,h2,e⟩
 all_goals
  rw [e];clear e
  go_enter func179,ntmps179
  go_wp2;go_returns
  exact ⟨rfl,rfl⟩
def routeSet (r:Route) (n cpu:Int):Route × Int:=if mayF 16 n≠0 then (r,3) else if mayF r.cpus cpu≠0 then (r,3) else (⟨r.l.set n.toNat (cpu+1),r.cpus⟩,0)
theorem oset_any (w:World) {r:Route} (h:RouteAt w F p r) (n cpu:Int):Calls prog 229 #[.pointer (some ⟨p,0,none⟩),.int .i64 n,.int .i64 cpu] w fun e w'=>e=.returned (.int .i64 (routeSet r n cpu).2)∧RouteAt w' F p (routeSet r n cpu).1∧Ch F w w'∧w'.heap.size=w.heap.size:=by
 have HT:=Hd h;have A:=Hd (omay_any w p n);have cc:=h.cc;have h64:=h.n64;unfold routeSet
 by_cases hm:mayF 16 n=0
 ·obtain ⟨i,rfl,hi⟩:=may_yes hm
  rw [hm] at A
  rw [if_neg (by simp [hm])]
  have ci:=h.cell hi
  have fi:w.frozen? ⟨p,i,none⟩=false:=h.head.frozen _
  simp only [Int.toNat_natCast]
  clear h hm
  rcases may_cases r.cpus cpu with ⟨h1,e⟩ | ⟨h1,h2,e⟩ | ⟨j,rfl,h2,e⟩
  ·rw [if_pos (by rw [e];decide)]
   clear e
   go_enter func229,ntmps229
   go_wp2_with fail;refine A.out.mono ?_;rintro e w1 ⟨rfl,rfl⟩;go_wp2;go_returns
   exact ⟨rfl,HT.out,Ch.refl _ _,rfl⟩
  ·rw [if_pos (by rw [e];decide)]
   clear e
   go_enter func229,ntmps229
   go_wp2_with fail;refine A.out.mono ?_;rintro e w1 ⟨rfl,rfl⟩;go_wp2;go_returns
   exact ⟨rfl,HT.out,Ch.refl _ _,rfl⟩
  ·rw [if_neg (by rw [e];decide)]
   clear e
   go_enter func229,ntmps229
   go_wp2_with fail;refine A.out.mono ?_;rintro e w1 ⟨rfl,rfl⟩;go_wp2;go_returns
   exact ⟨rfl,HT.out.set hi (j+1) (by omega),(Ch.refl _ _).setCell (p:=⟨p,i,none⟩) (fun _=>HT.out.fp) _,by simp⟩
 ·have e:=may_no hm
  rw [if_pos hm];rw [e] at A;clear h hm e cc
  go_enter func229,ntmps229
  go_wp2_with fail;refine A.out.mono ?_;rintro e w1 ⟨rfl,rfl⟩;go_wp2;go_returns
  exact ⟨rfl,HT.out,Ch.refl _ _,rfl⟩
def routeOf (r:Route) (n:Int):Int × Bool:=if mayF 16 n≠0 then (0,false) else if r.l.getD n.toNat 0=0 then (0,false) else (r.l.getD n.toNat 0 - 1,true)
theorem oof_any (w:World) {r:Route} (h:RouteAt w F p r) (n:Int):Calls prog 99 #[.pointer (some ⟨p,0,none⟩),.int .i64 n] w fun e w'=>e=.returned (.tuple #[.int .i64 (routeOf r n).1,.bool (routeOf r n).2])∧w=w':=by
 have A:=Hd (omay_any w p n);unfold routeOf
 by_cases hm:mayF 16 n=0
 ·obtain ⟨i,rfl,hi⟩:=may_yes hm
  rw [hm] at A
  rw [if_neg (by simp [hm])]
  have ci:=h.cell hi
  have hb:=h.bound hi
  simp only [Int.toNat_natCast]
  clear h hm;generalize r.l.getD i 0=x at *
  by_cases hx:x=0
  ·subst hx
   rw [if_pos rfl];clear hb
   go_enter func99,ntmps99
   go_wp2_with fail;refine A.out.mono ?_;rintro e w1 ⟨rfl,rfl⟩;go_wp2;go_returns
   exact ⟨rfl,rfl⟩
  ·rw [if_neg hx]
   have hx':(x == 0)=false:=by simpa using hx
   clear hx
   go_enter func99,ntmps99
   go_wp2_with fail;refine A.out.mono ?_;rintro e w1 ⟨rfl,rfl⟩;go_wp2;go_returns
   exact ⟨rfl,rfl⟩
 ·have e:=may_no hm
  rw [if_pos hm];rw [e] at A;clear h hm e
  go_enter func99,ntmps99
  go_wp2_with fail;refine A.out.mono ?_;rintro e w1 ⟨rfl,rfl⟩;go_wp2;go_returns
  exact ⟨rfl,rfl⟩
def routeOff (r:Route) (n:Int):Route × Int:=if mayF 16 n≠0 then (r,3) else if r.l.getD n.toNat 0=0 then (r,4) else (⟨r.l.set n.toNat 0,r.cpus⟩,0)
theorem ooff_any (w:World) {r:Route} (h:RouteAt w F p r) (n:Int):Calls prog 144 #[.pointer (some ⟨p,0,none⟩),.int .i64 n] w fun e w'=>e=.returned (.int .i64 (routeOff r n).2)∧RouteAt w' F p (routeOff r n).1∧Ch F w w'∧w'.heap.size=w.heap.size:=by
 have HT:=Hd h;have A:=Hd (omay_any w p n);unfold routeOff
 by_cases hm:mayF 16 n=0
 ·obtain ⟨i,rfl,hi⟩:=may_yes hm
  rw [hm] at A
  rw [if_neg (by simp [hm])]
  have ci:=h.cell hi
  have fi:w.frozen? ⟨p,i,none⟩=false:=h.head.frozen _
  simp only [Int.toNat_natCast]
  clear h hm;generalize r.l.getD i 0=x at *
  by_cases hx:x=0
  ·subst hx
   rw [if_pos rfl]
   go_enter func144,ntmps144
   go_wp2_with fail;refine A.out.mono ?_;rintro e w1 ⟨rfl,rfl⟩;go_wp2;go_returns
   exact ⟨rfl,HT.out,Ch.refl _ _,rfl⟩
  ·rw [if_neg hx]
   have hx':(x == 0)=false:=by simpa using hx
   clear hx
   go_enter func144,ntmps144
   go_wp2_with fail;refine A.out.mono ?_;rintro e w1 ⟨rfl,rfl⟩;go_wp2;go_returns
   exact ⟨rfl,HT.out.set hi 0 (by omega),(Ch.refl _ _).setCell (p:=⟨p,i,none⟩) (fun _=>HT.out.fp) _,by simp⟩
 ·have e:=may_no hm
  rw [if_pos hm];rw [e] at A;clear h hm e
  go_enter func144,ntmps144
  go_wp2_with fail;refine A.out.mono ?_;rintro e w1 ⟨rfl,rfl⟩;go_wp2;go_returns
  exact ⟨rfl,HT.out,Ch.refl _ _,rfl⟩
def routeHits (r:Route) (cpu:Int) (n:Nat):Bool:=(routeOf r n).2 && decide ((routeOf r n).1=cpu)
def routeTo (r:Route) (cpu:Int) (k:Nat):List Int:=((List.range k).filter (routeHits r cpu)).map fun (n:Nat)=>(n:Int)
def routeOn (r:Route) (cpu:Int):List Int:=routeTo r cpu 16
theorem routeTo_yes {r:Route} {cpu:Int} {k:Nat} (h:routeHits r cpu k=true):routeTo r cpu (k+1)=routeTo r cpu k++[(k:Int)]:=by
 simp [routeTo,List.range_succ,List.filter_append,h]
theorem routeTo_no {r:Route} {cpu:Int} {k:Nat} (h:routeHits r cpu k=false):routeTo r cpu (k+1)=routeTo r cpu k:=by
 simp [routeTo,List.range_succ,List.filter_append,h]
theorem routeTo_len (r:Route) (cpu:Int) (k:Nat):(routeTo r cpu k).length≤k:=by
 unfold routeTo;rw [List.length_map]
 exact Nat.le_trans (List.length_filter_le _ _) (by simp)
theorem oon_any (w:World) {r:Route} (h:RouteAt w F p r) (cpu:Int):Calls prog 30 #[.pointer (some ⟨p,0,none⟩),.int .i64 cpu] w fun e w'=>(∃ v,e=.returned v∧IntsAt w' (New w) v (routeOn r cpu))∧Below w.heap.size w w':=by
 have HS:=Hd h;clear h
 go_enter func30,ntmps30
 go_wp2
 go_loopw [11,6,7,8,5] (fun iv _ _ _ lv wr=>∃ k:Nat,iv=.int .i64 k∧k≤16∧Hid (IntsAt wr (New w) lv (routeTo r cpu k))∧Hid (Below w.heap.size w wr)) (fun iv _ _ _ _ _=>16 - (intOf iv).toNat)
 case atStart=>exact ⟨0,rfl,Nat.zero_le _,Hd (show IntsAt w (New w) _ [] from IntsAt.nil _ _),Hd (Below.refl _ _)⟩
 case round =>
  obtain ⟨k,rfl,hk,HL,HB⟩:=hrel;have hz:=HB.out.size
  by_cases hlt:k < 16
  ·have A:=Hd (oof_any wr (HS.out.below HB.out) (k:Int))
   have hle:(routeTo r cpu k).length≤1099511627776:=by have:=routeTo_len r cpu k;omega
   cases hh:routeHits r cpu k with
   | false =>
    have HH:=Hd (routeTo_no hh);unfold routeHits at hh;generalize routeOf r (k:Int)=u at *;obtain ⟨at',ok⟩:=u;dsimp only at hh A
    cases ok with
    | false =>
     clear hh;go_wp2_with fail;refine A.out.mono ?_;rintro e w' ⟨rfl,rfl⟩;go_wp2;go_roundw
     case rel=>exact ⟨k+1,by go_num,hlt,Hd (by rw [HH.out];exact HL.out),HB⟩
     case measure=>simp [intOf];omega
    | true =>
     have hne:(at' == cpu)=false:=by simpa using hh
     clear hh;go_wp2_with fail;refine A.out.mono ?_;rintro e w' ⟨rfl,rfl⟩;go_wp2;go_roundw
     case rel=>exact ⟨k+1,by go_num,hlt,Hd (by rw [HH.out];exact HL.out),HB⟩
     case measure=>simp [intOf];omega
   | true =>
    have HH:=Hd (routeTo_yes hh);unfold routeHits at hh;generalize routeOf r (k:Int)=u at *;obtain ⟨at',ok⟩:=u;dsimp only at hh A
    simp only [Bool.and_eq_true,decide_eq_true_eq] at hh
    obtain ⟨rfl,rfl⟩:=hh;go_wp2_with fail;refine A.out.mono ?_;rintro e w' ⟨rfl,rfl⟩
    go_wp2_with (at_builtin;refine wpList_app1 (n:=(k:Int)) rfl _ _ rfl (IntsAt.same HL.out ?_) (by rfl) (by rfl) ?_ hle ?_)
    ·exact (by (repeat (first | with_reducible exact Ch.refl _ _ | (with_reducible refine Ch.alloc ?_ _) | (with_reducible refine Ch.drew ?_) | (with_reducible refine Ch.drewN ?_ _))))
    ·exact cell_at1 _ _ rfl
    ·intro v' w1 h1 hc1
     replace h1:=Hd (h1.mono (New.plus (w:=w) (by simp;omega)))
     replace hc1:=Hd (New.below HB.out ((show Ch (New w) wr _ from (by (repeat (first | with_reducible exact Ch.refl _ _ | (with_reducible refine Ch.alloc ?_ _) | (with_reducible refine Ch.drew ?_) | (with_reducible refine Ch.drewN ?_ _))))).trans hc1))
     clear HL HB;go_wp2;go_roundw
     case rel=>exact ⟨k+1,by go_num,hlt,Hd (by rw [HH.out];exact h1.out),hc1⟩
     case measure=>simp [intOf];omega
  ·have:k=16:=by omega
   subst this;go_wp2;go_returns
   exact ⟨⟨_,rfl,HL.out⟩,HB.out⟩
def route0 (cpus:Nat):Route:=⟨List.replicate 16 0,cpus⟩
theorem onew_any (w:World) (cpus:Nat) (h1:1≤cpus) (h64:cpus≤64):Calls prog 58 #[.int .i64 cpus] w fun e w'=>(∃ p,e=.returned (.tuple #[.pointer (some ⟨p,0,none⟩),.int .i64 0])∧RouteAt w' (Plus w w' (fun _=>False)) p (route0 cpus))∧Below w.heap.size w w':=by
 go_enter func58,ntmps58
 go_wp2;go_returns
 refine ⟨⟨w.heap.size,rfl,?_,.inr ⟨Nat.le_refl _,by simp⟩,by simp [route0],fun x hx=>by have:=List.eq_of_mem_replicate hx;omega,h64⟩,(Below.refl _ _).alloc (Nat.le_refl _) _⟩
 exact Blk.at _ _ rfl
end Go.Proofs.YtiocbpabbjgkhaaGreatDoor
