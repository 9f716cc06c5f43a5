/- Part 26 of the proof: contracts and plain laws, each under the conditions that it names. -/
import Derived.Test.YtiocbpabbjgkhaaGreatDoorOnc25
set_option maxRecDepth 100000
set_option maxHeartbeats 20000000
set_option linter.unusedVariables false
set_option linter.unusedSimpArgs false
namespace Go.Proofs.YtiocbpabbjgkhaaGreatDoor
open Go.RowKit Go.Proofs.Tryz
variable {w w' : World} {F : Nat → Prop} {p : Nat} {f : KF} {k : K}
structure Book where
 works:List Int
 calls:List Int
 timers:List Int
 ok:Bool
structure BookQ (w:World) (F:Nat→Prop) (p:Nat) (v1 v2 v3:Value) (c:Nat→Nat) (b:Book):Prop where
 head:Blk w p #[v1,v2,v3,.bool b.ok] 77
 fp:Col F c 0 p
 i1:IntsAt w (Col F c 1) v1 b.works
 i2:IntsAt w (Col F c 2) v2 b.calls
 i3:IntsAt w (Col F c 3) v3 b.timers
 lt:∀ b,F b→b < w.heap.size
def BookAt (w:World) (F:Nat→Prop) (p:Nat) (b:Book):Prop:=∃ v1 v2 v3 c,BookQ w F p v1 v2 v3 c b
theorem BookAt.lt {b:Book} (h:BookAt w F p b):∀ x,F x→x < w.heap.size:=by
 obtain ⟨v1,v2,v3,c,h⟩:=h
 exact h.lt
theorem BookAt.fp {b:Book} (h:BookAt w F p b):F p:=by
 obtain ⟨v1,v2,v3,c,h⟩:=h
 exact h.fp.1
theorem BookQ.ch {F G:Nat→Prop} {v1 v2 v3:Value} {c:Nat→Nat} {b:Book} (h:BookQ w F p v1 v2 v3 c b) (hc:Ch G w w') (hd:∀ x,F x→¬ G x):BookQ w' F p v1 v2 v3 c b :=
 ⟨h.head.ch hc (hd p h.fp.1),h.fp,h.i1.ch hc (fun x hx=>hd x hx.1),h.i2.ch hc (fun x hx=>hd x hx.1),h.i3.ch hc (fun x hx=>hd x hx.1),fun x hx=>Nat.lt_of_lt_of_le (h.lt x hx) hc.size⟩
theorem BookAt.ch {F G:Nat→Prop} {b:Book} (h:BookAt w F p b) (hc:Ch G w w') (hd:∀ x,F x→¬ G x):BookAt w' F p b:=by
 obtain ⟨v1,v2,v3,c,h⟩:=h
 exact ⟨_,_,_,_,h.ch hc hd⟩
theorem BookAt.below {b:Book} (h:BookAt w F p b) (hb:Below w.heap.size w w'):BookAt w' F p b:=h.ch (Ch.off hb) (fun _ _ h=>h)
theorem ints_new {w w1:World} {v:Value} {l:List Int} (h:IntsAt w1 (New w) v l):IntsAt w1 (Plus w w1 F) v l:=h.cells.mono (fun b hb=>by
 obtain ⟨h1,cs,t,h2⟩:=hb
 exact .inr ⟨h1,h2.lt⟩)
theorem BookQ.put1 {w w1:World} {v1 v2 v3:Value} {c:Nat→Nat} {b:Book} (h:BookQ w F p v1 v2 v3 c b) {v':Value} {l:List Int} (hv:IntsAt w1 (Plus w w1 (Col F c 1)) v' l) (hc:Ch (Col F c 1) w w1) :
  BookQ (w1.setCell ⟨p,0,none⟩ v') (Plus w w1 F) p v' v2 v3 (recol w c 1) { b with works:=l }∧Ch F w (w1.setCell ⟨p,0,none⟩ v'):=by
 have hs:=hc.size
 have hcp:Ch (fun x=>Col F c 1 x∨x=p) w (w1.setCell ⟨p,0,none⟩ v'):=(hc.mono (fun _ _ h=>.inl h)).setCell (p:=⟨p,0,none⟩) (fun _=>.inr rfl) _
 have ne:∀ j,j≠1→j≠0→∀ x,Col F c j x→¬ (Col F c 1 x∨x=p):=fun j h1 h0 x hx e=>e.elim (fun e=>h1 (hx.2.symm.trans e.2)) (fun e=>by subst e;exact h0 (hx.2.symm.trans h.fp.2))
 have hp:Blk w1 p #[v1,v2,v3,.bool b.ok] 77:=h.head.ch hc (Col.apart (by omega) _ h.fp)
 refine ⟨⟨?_,Col.old h.lt _ h.fp,?_,?_,?_,?_⟩,hcp.mono (fun x _ hx=>hx.elim (fun e=>e.1) (fun e=>by rw [e];exact h.fp.1))⟩
 ·exact hp.set 0 v'
 ·refine (hv.ch ((Ch.refl (fun x=>x=p) w1).setCell (p:=⟨p,0,none⟩) (fun _=>rfl) v') (fun x hx e=>?_)).mono (Col.new h.lt)
  have e:x=p:=e
  subst e
  exact hx.elim (fun e=>by have:=e.2.symm.trans h.fp.2;omega) (fun e=>by have:=h.lt _ h.fp.1;omega)
 ·exact (h.i2.ch hcp (ne 2 (by omega) (by omega))).mono (Col.old h.lt)
 ·exact (h.i3.ch hcp (ne 3 (by omega) (by omega))).mono (Col.old h.lt)
 ·exact fun x hx=>by
   simp only [World.size_setCell]
   exact hx.elim (fun e=>Nat.lt_of_lt_of_le (h.lt x e) hs) (fun e=>e.2)
theorem BookQ.put2 {w w1:World} {v1 v2 v3:Value} {c:Nat→Nat} {b:Book} (h:BookQ w F p v1 v2 v3 c b) {v':Value} {l:List Int} (hv:IntsAt w1 (Plus w w1 (Col F c 2)) v' l) (hc:Ch (Col F c 2) w w1) :
  BookQ (w1.setCell ⟨p,1,none⟩ v') (Plus w w1 F) p v1 v' v3 (recol w c 2) { b with calls:=l }∧Ch F w (w1.setCell ⟨p,1,none⟩ v'):=by
 have hs:=hc.size
 have hcp:Ch (fun x=>Col F c 2 x∨x=p) w (w1.setCell ⟨p,1,none⟩ v'):=(hc.mono (fun _ _ h=>.inl h)).setCell (p:=⟨p,1,none⟩) (fun _=>.inr rfl) _
 have ne:∀ j,j≠2→j≠0→∀ x,Col F c j x→¬ (Col F c 2 x∨x=p):=fun j h1 h0 x hx e=>e.elim (fun e=>h1 (hx.2.symm.trans e.2)) (fun e=>by subst e;exact h0 (hx.2.symm.trans h.fp.2))
 have hp:Blk w1 p #[v1,v2,v3,.bool b.ok] 77:=h.head.ch hc (Col.apart (by omega) _ h.fp)
 refine ⟨⟨?_,Col.old h.lt _ h.fp,?_,?_,?_,?_⟩,hcp.mono (fun x _ hx=>hx.elim (fun e=>e.1) (fun e=>by rw [e];exact h.fp.1))⟩
 ·exact hp.set 1 v'
 ·exact (h.i1.ch hcp (ne 1 (by omega) (by omega))).mono (Col.old h.lt)
 ·refine (hv.ch ((Ch.refl (fun x=>x=p) w1).setCell (p:=⟨p,1,none⟩) (fun _=>rfl) v') (fun x hx e=>?_)).mono (Col.new h.lt)
  have e:x=p:=e
  subst e
  exact hx.elim (fun e=>by have:=e.2.symm.trans h.fp.2;omega) (fun e=>by have:=h.lt _ h.fp.1;omega)
 ·exact (h.i3.ch hcp (ne 3 (by omega) (by omega))).mono (Col.old h.lt)
 ·exact fun x hx=>by
   simp only [World.size_setCell]
   exact hx.elim (fun e=>Nat.lt_of_lt_of_le (h.lt x e) hs) (fun e=>e.2)
theorem BookQ.put3 {w w1:World} {v1 v2 v3:Value} {c:Nat→Nat} {b:Book} (h:BookQ w F p v1 v2 v3 c b) {v':Value} {l:List Int} (hv:IntsAt w1 (Plus w w1 (Col F c 3)) v' l) (hc:Ch (Col F c 3) w w1) :
  BookQ (w1.setCell ⟨p,2,none⟩ v') (Plus w w1 F) p v1 v2 v' (recol w c 3) { b with timers:=l }∧Ch F w (w1.setCell ⟨p,2,none⟩ v'):=by
 have hs:=hc.size
 have hcp:Ch (fun x=>Col F c 3 x∨x=p) w (w1.setCell ⟨p,2,none⟩ v'):=(hc.mono (fun _ _ h=>.inl h)).setCell (p:=⟨p,2,none⟩) (fun _=>.inr rfl) _
 have ne:∀ j,j≠3→j≠0→∀ x,Col F c j x→¬ (Col F c 3 x∨x=p):=fun j h1 h0 x hx e=>e.elim (fun e=>h1 (hx.2.symm.trans e.2)) (fun e=>by subst e;exact h0 (hx.2.symm.trans h.fp.2))
 have hp:Blk w1 p #[v1,v2,v3,.bool b.ok] 77:=h.head.ch hc (Col.apart (by omega) _ h.fp)
 refine ⟨⟨?_,Col.old h.lt _ h.fp,?_,?_,?_,?_⟩,hcp.mono (fun x _ hx=>hx.elim (fun e=>e.1) (fun e=>by rw [e];exact h.fp.1))⟩
 ·exact hp.set 2 v'
 ·exact (h.i1.ch hcp (ne 1 (by omega) (by omega))).mono (Col.old h.lt)
 ·exact (h.i2.ch hcp (ne 2 (by omega) (by omega))).mono (Col.old h.lt)
 ·refine (hv.ch ((Ch.refl (fun x=>x=p) w1).setCell (p:=⟨p,2,none⟩) (fun _=>rfl) v') (fun x hx e=>?_)).mono (Col.new h.lt)
  have e:x=p:=e
  subst e
  exact hx.elim (fun e=>by have:=e.2.symm.trans h.fp.2;omega) (fun e=>by have:=h.lt _ h.fp.1;omega)
 ·exact fun x hx=>by
   simp only [World.size_setCell]
   exact hx.elim (fun e=>Nat.lt_of_lt_of_le (h.lt x e) hs) (fun e=>e.2)
theorem BookQ.setok {v1 v2 v3:Value} {c:Nat→Nat} {b:Book} (h:BookQ w F p v1 v2 v3 c b) (ok:Bool):BookQ (w.setCell ⟨p,3,none⟩ (.bool ok)) F p v1 v2 v3 c { b with ok:=ok }∧Ch F w (w.setCell ⟨p,3,none⟩ (.bool ok)):=by
 have hc:Ch (fun x=>x=p) w (w.setCell ⟨p,3,none⟩ (.bool ok)):=(Ch.refl (fun x=>x=p) w).setCell (p:=⟨p,3,none⟩) (fun _=>rfl) _
 have ne:∀ j,j≠0→∀ x,Col F c j x→¬ x=p:=fun j h0 x hx e=>by subst e;exact h0 (hx.2.symm.trans h.fp.2)
 refine ⟨⟨h.head.set 3 _,h.fp,h.i1.ch hc (ne 1 (by omega)),h.i2.ch hc (ne 2 (by omega)),h.i3.ch hc (ne 3 (by omega)),fun x hx=>by simpa using h.lt x hx⟩,hc.mono (fun x _ hx=>by rw [hx];exact h.fp.1)⟩
def BkS (w w':World) (F:Nat→Prop) (p:Nat) (b:Book):Prop:=BookAt w' (Plus w w' F) p b∧Ch F w w'
theorem plus_up {w w1 w2:World} (hs:w1.heap.size≤w2.heap.size):∀ b,Plus w w1 F b→Plus w w2 F b:=fun b hb=>hb.imp id (fun e=>⟨e.1,Nat.lt_of_lt_of_le e.2 hs⟩)
theorem BookQ.plus {w w1 w2:World} {v1 v2 v3:Value} {c:Nat→Nat} {b:Book} (h:BookQ w2 (Plus w w1 F) p v1 v2 v3 c b) (hs:w1.heap.size≤w2.heap.size):BookAt w2 (Plus w w2 F) p b :=
 ⟨_,_,_,_,h.head,⟨plus_up hs _ h.fp.1,h.fp.2⟩,h.i1.mono (fun x hx=>⟨plus_up hs _ hx.1,hx.2⟩),h.i2.mono (fun x hx=>⟨plus_up hs _ hx.1,hx.2⟩),h.i3.mono (fun x hx=>⟨plus_up hs _ hx.1,hx.2⟩),fun x hx=>hx.elim (fun e=>h.lt x (.inl e)) (fun e=>e.2)⟩
theorem BookQ.close {w W w2 W3 W4:World} {v1 v2 v3:Value} {c:Nat→Nat} {b:Book} (hb0:Below w.heap.size w W) (hs:w2.heap.size≤W3.heap.size) (h1:Ch F W W3) (h2:Ch (Plus W w2 F) W3 W4) (q:BookQ W4 (Plus W w2 F) p v1 v2 v3 c b):BkS w W4 F p b:=by
 have a:=h1.size;have d:=h2.size
 refine ⟨?_,(((Ch.off hb0).mono (fun _ _ h=>h.elim)).trans h1).then h2 (fun i hi hp=>hp.elim id (fun e=>by have:=hb0.size;omega))⟩
 obtain ⟨u1,u2,u3,c',hq⟩:=q.plus (w:=W) (w1:=w2) (by omega)
 exact ⟨u1,u2,u3,c',hq.head,⟨Plus.cover hb0.size _ hq.fp.1,hq.fp.2⟩,hq.i1.mono (fun x hx=>⟨Plus.cover hb0.size _ hx.1,hx.2⟩),hq.i2.mono (fun x hx=>⟨Plus.cover hb0.size _ hx.1,hx.2⟩),hq.i3.mono (fun x hx=>⟨Plus.cover hb0.size _ hx.1,hx.2⟩),fun x hx=>hx.elim (fun e=>hq.lt x (.inl e)) (fun e=>e.2)⟩
def bookRec (b:Book) (x:Rec):Book :=
 if x.kind=5 then { b with works:=b.works.erase x.id,ok:=b.ok && b.works.contains x.id }
 else if x.kind=6 then { b with calls:=b.calls.erase x.id,ok:=b.ok && b.calls.contains x.id }
 else if x.kind=3 then { b with timers:=b.timers.erase x.id,ok:=b.ok && b.timers.contains x.id }
 else b
def shortB (b:Book):Prop:=b.works.length≤1000000∧b.calls.length≤1000000∧b.timers.length≤1000000
theorem rec_any {b:Book} (h:BookAt w F p b) (hs:shortB b) (x:Rec):Calls prog 39 #[.pointer (some ⟨p,0,none⟩),.agg (recC x)] w fun e w'=>e=.returned (.tuple #[])∧BkS w w' F p (bookRec b x):=by
 obtain ⟨v1,v2,v3,c,h⟩:=h;obtain ⟨l1,l2,l3,ok⟩:=b;obtain ⟨ba1,ca1,rfl⟩:=h.i1.form;obtain ⟨ba2,ca2,rfl⟩:=h.i2.form;obtain ⟨ba3,ca3,rfl⟩:=h.i3.form;obtain ⟨kind,cpu,id,n,why⟩:=x;unfold bookRec
 dsimp only [shortB] at hs ⊢
 unfold recC;dsimp only
 have hb0:Below w.heap.size w (w.alloc (.cells #[.int .i64 kind,.int .i64 cpu,.int .i64 id,.int .i64 n,.int .i64 why] 43)):=(Below.refl _ _).alloc (Nat.le_refl _) _
 have HX:=Hd (Blk.new w #[.int .i64 kind,.int .i64 cpu,.int .i64 id,.int .i64 n,.int .i64 why] 43)
 have HB:=Hd (h.ch (Ch.off hb0) (fun _ _ h=>h))
 obtain ⟨W,hW⟩:∃ W,W=w.alloc (.cells #[.int .i64 kind,.int .i64 cpu,.int .i64 id,.int .i64 n,.int .i64 why] 43):=⟨_,rfl⟩
 have hsz:Hid (w.heap.size+1=W.heap.size):=Hd (by rw [hW];simp)
 rw [← hW] at HX HB hb0;replace hW:=Hd hW;replace hb0:=Hd hb0;have hlt:=Hd h.lt;have hF2:=Hd h.fp.1;clear h
 by_cases k5:kind=5
 ·subst k5
  rw [if_pos rfl];have c0:=HX.out.cell 0;have c2:=HX.out.cell 2;have d0:=HB.out.head.cell 0;dsimp only at c0 c2 d0
  have A1:=Hd (without_any W.drew (IntsAt.ch HB.out.i1 ((Ch.refl (fun _=>False) _).drew) (fun _ _ h=>h)) (fun x hx=>HB.out.lt x hx.1) hs.1 id)
  obtain ⟨hd,hhd⟩:∃ hd,hd=l1.contains id:=⟨_,rfl⟩
  rw [← hhd] at A1 ⊢;replace hhd:=Hd hhd
  have hq:W.cell? ⟨w.heap.size,2,none⟩=some (.int .i64 id)∧W.cell? ⟨p,0,none⟩=some (.slice ba1 l1.length ca1):=⟨c2,d0⟩
  replace hq:=Hd hq
  go_enter func39,ntmps39
  go_wp2_with fail;rw [← hW.out];go_wp2_with fail
  refine wp_region_late (S:=fun w'=>w'.cell? ⟨w.heap.size,2,none⟩=some (.int .i64 id)∧w'.cell? ⟨p,0,none⟩=some (.slice ba1 l1.length ca1)) (late:=[13]) (by kernel_rfl) ?_
  have hHeld:W.drew.cell? ⟨w.heap.size,2,none⟩=some (.int .i64 id)∧W.drew.cell? ⟨p,0,none⟩=some (.slice ba1 l1.length ca1):=hq.out
  refine wpLate.take0 (i:=0) (oi:=?_) (v:=?_) ?_ (by kernel_rfl) (by kernel_rfl) (by kernel_rfl) (by kernel_rfl) ?_ (Or.inl ⟨?_,?_⟩) (fun _=>hHeld) ?_
  rotate_left 2
  ·simp only [sD,sE,sF];rfl
  ·exact fun _ _ _ h=>h
  ·rfl
  ·intro w' hSw;clear hSw;go_simp;(try with_reducible rfl)
  (try simp only [Act.put,sA,sB,sC])
  refine wpLate.take0 (i:=1) (oi:=?_) (v:=?_) ?_ (by kernel_rfl) (by kernel_rfl) (by kernel_rfl) (by kernel_rfl) ?_ (Or.inl ⟨?_,?_⟩) (fun _=>hHeld) ?_
  rotate_left 2
  ·simp only [sD,sE,sF];rfl
  ·exact fun _ _ _ h=>h
  ·rfl
  ·intro w' hSw;clear hSw;go_simp;(try with_reducible rfl)
  (try simp only [Act.put,sA,sB,sC])
  refine wpLate.take0 (i:=2) (oi:=?_) (v:=?_) ?_ (by kernel_rfl) (by kernel_rfl) (by kernel_rfl) (by kernel_rfl) ?_ (Or.inl ⟨?_,?_⟩) (fun _=>hHeld) ?_
  rotate_left 2
  ·simp only [sD,sE,sF];rfl
  ·exact fun _ _ _ h=>h
  ·rfl
  ·intro w' hSw;clear hSw;go_simp;(try with_reducible rfl)
  (try simp only [Act.put,sA,sB,sC])
  refine wpLate.take0 (i:=3) (oi:=?_) (v:=?_) ?_ (by kernel_rfl) (by kernel_rfl) (by kernel_rfl) (by kernel_rfl) ?_ (Or.inl ⟨?_,?_⟩) (fun _=>hHeld) ?_
  rotate_left 2
  ·simp only [sD,sE,sF];rfl
  ·exact fun _ _ _ h=>h
  ·rfl
  ·intro w' hSw;clear hSw;go_simp;(try with_reducible rfl)
  (try simp only [Act.put,sA,sB,sC])
  refine wpLate.take0 (i:=5) (oi:=?_) (v:=?_) ?_ (by kernel_rfl) (by kernel_rfl) (by kernel_rfl) (by kernel_rfl) ?_ (Or.inl ⟨?_,?_⟩) (fun _=>hHeld) ?_
  rotate_left 2
  ·simp only [sD,sE,sF];rfl
  ·exact fun _ _ _ h=>h
  ·rfl
  ·intro w' hSw;clear hSw;go_simp;(try with_reducible rfl)
  (try simp only [Act.put,sA,sB,sC])
  refine wpLate.take1 (i:=4) (oi:=?_) (v:=?_) ?_ (by kernel_rfl) (by kernel_rfl) (by kernel_rfl) (by kernel_rfl) (by kernel_rfl) (by kernel_rfl) ?_ (Or.inl ⟨?_,?_⟩) hHeld ?_
  rotate_left 2
  ·simp only [sD,sE,sF];rfl
  ·exact fun _ _ _ h=>h
  ·rfl
  ·intro w' hSw;(try dsimp only at hSw);go_simp;(try with_reducible rfl)
  (try simp only [Act.put,sA,sB,sC])
  refine wpLate.take1 (i:=6) (oi:=?_) (v:=?_) ?_ (by kernel_rfl) (by kernel_rfl) (by kernel_rfl) (by kernel_rfl) (by kernel_rfl) (by kernel_rfl) ?_ (Or.inl ⟨?_,?_⟩) hHeld ?_
  rotate_left 2
  ·simp only [sD,sE,sF];rfl
  ·exact fun _ _ _ h=>h
  ·rfl
  ·intro w' hSw;(try dsimp only at hSw);go_simp;(try with_reducible rfl)
  (try simp only [Act.put,sA,sB,sC])
  refine wpLate.one (i:=7) (o:=?_) (by kernel_rfl) ?_ (fun K hK=>?_)
  rotate_left 1
  ·simp only [sD,sE,sF];rfl
  go_simp
  (refine A1.out.mono ?_;rintro e w2 ⟨⟨v',rfl,hv⟩,hb1⟩;have hb:Below W.heap.size W w2:=(Below.refl _ W).drew.trans hb1;clear hb1)
  have hHeld:=(show w2.cell? ⟨w.heap.size,2,none⟩=some (.int .i64 id)∧w2.cell? ⟨p,0,none⟩=some (.slice ba1 l1.length ca1) from ⟨keepcell hb hq.out.1,keepcell hb hq.out.2⟩)
  refine hK.out _ _ (fun _=>hHeld) ?_
  clear hK K
  (try simp only [Act.put,sA,sB,sC])
  have HB2:=HB.out.ch (Ch.off hb) (fun _ _ h=>h)
  have e0:=HB2.head.cell 0;have f0:=HB2.head.frozen 0;dsimp only at e0;obtain ⟨bb,cc,rfl⟩:=hv.form
  obtain ⟨Q,hQc⟩:=HB.out.put1 (ints_new hv) ((Ch.off hb).mono (fun _ _ h=>h.elim))
  replace Q:=Hd Q;replace hQc:=Hd hQc;have hss:=Hd hb.size
  refine wpLate.take0 (i:=8) (oi:=?_) (v:=?_) ?_ (by kernel_rfl) (by kernel_rfl) (by kernel_rfl) (by kernel_rfl) ?_ (Or.inl ⟨?_,?_⟩) (fun _=>hHeld) ?_
  rotate_left 2
  ·simp only [sD,sE,sF];rfl
  ·exact fun _ _ _ h=>h
  ·rfl
  ·intro w' hSw;clear hSw;go_simp;(try with_reducible rfl)
  (try simp only [Act.put,sA,sB,sC])
  refine wpLate.take0 (i:=9) (oi:=?_) (v:=?_) ?_ (by kernel_rfl) (by kernel_rfl) (by kernel_rfl) (by kernel_rfl) ?_ (Or.inl ⟨?_,?_⟩) (fun _=>hHeld) ?_
  rotate_left 2
  ·simp only [sD,sE,sF];rfl
  ·exact fun _ _ _ h=>h
  ·rfl
  ·intro w' hSw;clear hSw;go_simp;(try with_reducible rfl)
  (try simp only [Act.put,sA,sB,sC])
  refine wpLate.take0 (i:=10) (oi:=?_) (v:=?_) ?_ (by kernel_rfl) (by kernel_rfl) (by kernel_rfl) (by kernel_rfl) ?_ (Or.inl ⟨?_,?_⟩) (fun _=>hHeld) ?_
  rotate_left 2
  ·simp only [sD,sE,sF];rfl
  ·exact fun _ _ _ h=>h
  ·rfl
  ·intro w' hSw;clear hSw;go_simp;(try with_reducible rfl)
  (try simp only [Act.put,sA,sB,sC])
  refine wpLate.take0 (i:=11) (oi:=?_) (v:=?_) ?_ (by kernel_rfl) (by kernel_rfl) (by kernel_rfl) (by kernel_rfl) ?_ (Or.inl ⟨?_,?_⟩) (fun _=>hHeld) ?_
  rotate_left 2
  ·simp only [sD,sE,sF];rfl
  ·exact fun _ _ _ h=>h
  ·rfl
  ·intro w' hSw;clear hSw;go_simp;(try with_reducible rfl)
  (try simp only [Act.put,sA,sB,sC])
  refine wpLate.take0 (i:=12) (oi:=?_) (v:=?_) ?_ (by kernel_rfl) (by kernel_rfl) (by kernel_rfl) (by kernel_rfl) ?_ (Or.inl ⟨?_,?_⟩) (fun _=>hHeld) ?_
  rotate_left 2
  ·simp only [sD,sE,sF];rfl
  ·exact fun _ _ _ h=>h
  ·rfl
  ·intro w' hSw;clear hSw;go_simp;(try with_reducible rfl)
  (try simp only [Act.put,sA,sB,sC])
  refine wpLate.one (i:=13) (o:=?_) (by kernel_rfl) ?_ (fun K hK=>?_)
  rotate_left 1
  ·simp only [sD,sE,sF];rfl
  go_simp
  refine hK.out _ _ (fun e=>Bool.noConfusion (e 13 (by simp))) ?_
  clear hK K
  (try simp only [Act.put,sA,sB,sC])
  refine wpLate.one (i:=14) (o:=?_) (by kernel_rfl) ?_ (fun K hK=>?_)
  rotate_left 1
  ·simp only [sD,sE,sF];rfl
  go_simp
  refine hK.out _ _ (fun e=>Bool.noConfusion (e 13 (by simp))) ?_
  clear hK K
  (try simp only [Act.put,sA,sB,sC])
  refine wpLate.done (by kernel_rfl) ?_ _
  clear HB2 e0 f0 hb hv hHeld hq A1 c0 c2 d0
  obtain ⟨W3,hW3⟩:∃ W3,W3=w2.setCell ⟨p,0,none⟩ (.slice bb (l1.erase id).length cc):=⟨_,rfl⟩
  have hs3:Hid (w2.heap.size≤W3.heap.size):=Hd (by rw [hW3];simp)
  rw [← hW3] at Q hQc;rw [← hW3];replace hW3:=Hd hW3;have e3:=Q.out.head.cell 3;have f3:=Q.out.head.frozen 3;dsimp only at e3
  obtain ⟨Q2,hQ2⟩:=Q.out.setok (ok && hd)
  replace Q2:=Hd Q2;replace hQ2:=Hd hQ2;clear Q
  cases ok
  all_goals
   go_wp2;go_end0
   exact ⟨rfl,BookQ.close hb0.out (Nat.le_trans (Nat.le_refl _) hs3.out) hQc.out hQ2.out Q2.out⟩
 rw [if_neg k5]
 have g5:(kind == 5)=false:=by simpa using k5
 by_cases k6:kind=6
 ·subst k6
  rw [if_pos rfl];have c0:=HX.out.cell 0;have c2:=HX.out.cell 2;have d0:=HB.out.head.cell 1;dsimp only at c0 c2 d0
  have A1:=Hd (without_any W.drew (IntsAt.ch HB.out.i2 ((Ch.refl (fun _=>False) _).drew) (fun _ _ h=>h)) (fun x hx=>HB.out.lt x hx.1) hs.2.1 id)
  obtain ⟨hd,hhd⟩:∃ hd,hd=l2.contains id:=⟨_,rfl⟩
  rw [← hhd] at A1 ⊢;replace hhd:=Hd hhd
  have hq:W.cell? ⟨w.heap.size,2,none⟩=some (.int .i64 id)∧W.cell? ⟨p,1,none⟩=some (.slice ba2 l2.length ca2):=⟨c2,d0⟩
  replace hq:=Hd hq
  go_enter func39,ntmps39
  go_wp2_with fail;rw [← hW.out];go_wp2_with fail
  refine wp_region_late (S:=fun w'=>w'.cell? ⟨w.heap.size,2,none⟩=some (.int .i64 id)∧w'.cell? ⟨p,1,none⟩=some (.slice ba2 l2.length ca2)) (late:=[13]) (by kernel_rfl) ?_
  have hHeld:W.drew.cell? ⟨w.heap.size,2,none⟩=some (.int .i64 id)∧W.drew.cell? ⟨p,1,none⟩=some (.slice ba2 l2.length ca2):=hq.out
  refine wpLate.take0 (i:=0) (oi:=?_) (v:=?_) ?_ (by kernel_rfl) (by kernel_rfl) (by kernel_rfl) (by kernel_rfl) ?_ (Or.inl ⟨?_,?_⟩) (fun _=>hHeld) ?_
  rotate_left 2
  ·simp only [sD,sE,sF];rfl
  ·exact fun _ _ _ h=>h
  ·rfl
  ·intro w' hSw;clear hSw;go_simp;(try with_reducible rfl)
  (try simp only [Act.put,sA,sB,sC])
  refine wpLate.take0 (i:=1) (oi:=?_) (v:=?_) ?_ (by kernel_rfl) (by kernel_rfl) (by kernel_rfl) (by kernel_rfl) ?_ (Or.inl ⟨?_,?_⟩) (fun _=>hHeld) ?_
  rotate_left 2
  ·simp only [sD,sE,sF];rfl
  ·exact fun _ _ _ h=>h
  ·rfl
  ·intro w' hSw;clear hSw;go_simp;(try with_reducible rfl)
  (try simp only [Act.put,sA,sB,sC])
  refine wpLate.take0 (i:=2) (oi:=?_) (v:=?_) ?_ (by kernel_rfl) (by kernel_rfl) (by kernel_rfl) (by kernel_rfl) ?_ (Or.inl ⟨?_,?_⟩) (fun _=>hHeld) ?_
  rotate_left 2
  ·simp only [sD,sE,sF];rfl
  ·exact fun _ _ _ h=>h
  ·rfl
  ·intro w' hSw;clear hSw;go_simp;(try with_reducible rfl)
  (try simp only [Act.put,sA,sB,sC])
  refine wpLate.take0 (i:=3) (oi:=?_) (v:=?_) ?_ (by kernel_rfl) (by kernel_rfl) (by kernel_rfl) (by kernel_rfl) ?_ (Or.inl ⟨?_,?_⟩) (fun _=>hHeld) ?_
  rotate_left 2
  ·simp only [sD,sE,sF];rfl
  ·exact fun _ _ _ h=>h
  ·rfl
  ·intro w' hSw;clear hSw;go_simp;(try with_reducible rfl)
  (try simp only [Act.put,sA,sB,sC])
  refine wpLate.take0 (i:=5) (oi:=?_) (v:=?_) ?_ (by kernel_rfl) (by kernel_rfl) (by kernel_rfl) (by kernel_rfl) ?_ (Or.inl ⟨?_,?_⟩) (fun _=>hHeld) ?_
  rotate_left 2
  ·simp only [sD,sE,sF];rfl
  ·exact fun _ _ _ h=>h
  ·rfl
  ·intro w' hSw;clear hSw;go_simp;(try with_reducible rfl)
  (try simp only [Act.put,sA,sB,sC])
  refine wpLate.take1 (i:=4) (oi:=?_) (v:=?_) ?_ (by kernel_rfl) (by kernel_rfl) (by kernel_rfl) (by kernel_rfl) (by kernel_rfl) (by kernel_rfl) ?_ (Or.inl ⟨?_,?_⟩) hHeld ?_
  rotate_left 2
  ·simp only [sD,sE,sF];rfl
  ·exact fun _ _ _ h=>h
  ·rfl
  ·intro w' hSw;(try dsimp only at hSw);go_simp;(try with_reducible rfl)
  (try simp only [Act.put,sA,sB,sC])
  refine wpLate.take1 (i:=6) (oi:=?_) (v:=?_) ?_ (by kernel_rfl) (by kernel_rfl) (by kernel_rfl) (by kernel_rfl) (by kernel_rfl) (by kernel_rfl) ?_ (Or.inl ⟨?_,?_⟩) hHeld ?_
  rotate_left 2
  ·simp only [sD,sE,sF];rfl
  ·exact fun _ _ _ h=>h
  ·rfl
  ·intro w' hSw;(try dsimp only at hSw);go_simp;(try with_reducible rfl)
  (try simp only [Act.put,sA,sB,sC])
  refine wpLate.one (i:=7) (o:=?_) (by kernel_rfl) ?_ (fun K hK=>?_)
  rotate_left 1
  ·simp only [sD,sE,sF];rfl
  go_simp
  (refine A1.out.mono ?_;rintro e w2 ⟨⟨v',rfl,hv⟩,hb1⟩;have hb:Below W.heap.size W w2:=(Below.refl _ W).drew.trans hb1;clear hb1)
  have hHeld:=(show w2.cell? ⟨w.heap.size,2,none⟩=some (.int .i64 id)∧w2.cell? ⟨p,1,none⟩=some (.slice ba2 l2.length ca2) from ⟨keepcell hb hq.out.1,keepcell hb hq.out.2⟩)
  refine hK.out _ _ (fun _=>hHeld) ?_
  clear hK K
  (try simp only [Act.put,sA,sB,sC])
  have HB2:=HB.out.ch (Ch.off hb) (fun _ _ h=>h)
  have e0:=HB2.head.cell 1;have f0:=HB2.head.frozen 1;dsimp only at e0;obtain ⟨bb,cc,rfl⟩:=hv.form
  obtain ⟨Q,hQc⟩:=HB.out.put2 (ints_new hv) ((Ch.off hb).mono (fun _ _ h=>h.elim))
  replace Q:=Hd Q;replace hQc:=Hd hQc;have hss:=Hd hb.size
  refine wpLate.take0 (i:=8) (oi:=?_) (v:=?_) ?_ (by kernel_rfl) (by kernel_rfl) (by kernel_rfl) (by kernel_rfl) ?_ (Or.inl ⟨?_,?_⟩) (fun _=>hHeld) ?_
  rotate_left 2
  ·simp only [sD,sE,sF];rfl
  ·exact fun _ _ _ h=>h
  ·rfl
  ·intro w' hSw;clear hSw;go_simp;(try with_reducible rfl)
  (try simp only [Act.put,sA,sB,sC])
  refine wpLate.take0 (i:=9) (oi:=?_) (v:=?_) ?_ (by kernel_rfl) (by kernel_rfl) (by kernel_rfl) (by kernel_rfl) ?_ (Or.inl ⟨?_,?_⟩) (fun _=>hHeld) ?_
  rotate_left 2
  ·simp only [sD,sE,sF];rfl
  ·exact fun _ _ _ h=>h
  ·rfl
  ·intro w' hSw;clear hSw;go_simp;(try with_reducible rfl)
  (try simp only [Act.put,sA,sB,sC])
  refine wpLate.take0 (i:=10) (oi:=?_) (v:=?_) ?_ (by kernel_rfl) (by kernel_rfl) (by kernel_rfl) (by kernel_rfl) ?_ (Or.inl ⟨?_,?_⟩) (fun _=>hHeld) ?_
  rotate_left 2
  ·simp only [sD,sE,sF];rfl
  ·exact fun _ _ _ h=>h
  ·rfl
  ·intro w' hSw;clear hSw;go_simp;(try with_reducible rfl)
  (try simp only [Act.put,sA,sB,sC])
  refine wpLate.take0 (i:=11) (oi:=?_) (v:=?_) ?_ (by kernel_rfl) (by kernel_rfl) (by kernel_rfl) (by kernel_rfl) ?_ (Or.inl ⟨?_,?_⟩) (fun _=>hHeld) ?_
  rotate_left 2
  ·simp only [sD,sE,sF];rfl
  ·exact fun _ _ _ h=>h
  ·rfl
  ·intro w' hSw;clear hSw;go_simp;(try with_reducible rfl)
  (try simp only [Act.put,sA,sB,sC])
  refine wpLate.take0 (i:=12) (oi:=?_) (v:=?_) ?_ (by kernel_rfl) (by kernel_rfl) (by kernel_rfl) (by kernel_rfl) ?_ (Or.inl ⟨?_,?_⟩) (fun _=>hHeld) ?_
  rotate_left 2
  ·simp only [sD,sE,sF];rfl
  ·exact fun _ _ _ h=>h
  ·rfl
  ·intro w' hSw;clear hSw;go_simp;(try with_reducible rfl)
  (try simp only [Act.put,sA,sB,sC])
  refine wpLate.one (i:=13) (o:=?_) (by kernel_rfl) ?_ (fun K hK=>?_)
  rotate_left 1
  ·simp only [sD,sE,sF];rfl
  go_simp
  refine hK.out _ _ (fun e=>Bool.noConfusion (e 13 (by simp))) ?_
  clear hK K
  (try simp only [Act.put,sA,sB,sC])
  refine wpLate.one (i:=14) (o:=?_) (by kernel_rfl) ?_ (fun K hK=>?_)
  rotate_left 1
  ·simp only [sD,sE,sF];rfl
  go_simp
  refine hK.out _ _ (fun e=>Bool.noConfusion (e 13 (by simp))) ?_
  clear hK K
  (try simp only [Act.put,sA,sB,sC])
  refine wpLate.done (by kernel_rfl) ?_ _
  clear HB2 e0 f0 hb hv hHeld hq A1 c0 c2 d0
  obtain ⟨W3,hW3⟩:∃ W3,W3=w2.setCell ⟨p,1,none⟩ (.slice bb (l2.erase id).length cc):=⟨_,rfl⟩
  have hs3:Hid (w2.heap.size≤W3.heap.size):=Hd (by rw [hW3];simp)
  rw [← hW3] at Q hQc;rw [← hW3];replace hW3:=Hd hW3;have e3:=Q.out.head.cell 3;have f3:=Q.out.head.frozen 3;dsimp only at e3
  obtain ⟨Q2,hQ2⟩:=Q.out.setok (ok && hd)
  replace Q2:=Hd Q2;replace hQ2:=Hd hQ2;clear Q
  cases ok
  all_goals
   go_wp2;go_end0
   exact ⟨rfl,BookQ.close hb0.out (Nat.le_trans (Nat.le_refl _) hs3.out) hQc.out hQ2.out Q2.out⟩
 rw [if_neg k6]
 have g6:(kind == 6)=false:=by simpa using k6
 by_cases k3:kind=3
 ·subst k3
  rw [if_pos rfl];have c0:=HX.out.cell 0;have c2:=HX.out.cell 2;have d0:=HB.out.head.cell 2;dsimp only at c0 c2 d0
  have A1:=Hd (without_any W.drew (IntsAt.ch HB.out.i3 ((Ch.refl (fun _=>False) _).drew) (fun _ _ h=>h)) (fun x hx=>HB.out.lt x hx.1) hs.2.2 id)
  obtain ⟨hd,hhd⟩:∃ hd,hd=l3.contains id:=⟨_,rfl⟩
  rw [← hhd] at A1 ⊢;replace hhd:=Hd hhd
  have hq:W.cell? ⟨w.heap.size,2,none⟩=some (.int .i64 id)∧W.cell? ⟨p,2,none⟩=some (.slice ba3 l3.length ca3):=⟨c2,d0⟩
  replace hq:=Hd hq
  go_enter func39,ntmps39
  go_wp2_with fail;rw [← hW.out];go_wp2_with fail
  refine wp_region_late (S:=fun w'=>w'.cell? ⟨w.heap.size,2,none⟩=some (.int .i64 id)∧w'.cell? ⟨p,2,none⟩=some (.slice ba3 l3.length ca3)) (late:=[13]) (by kernel_rfl) ?_
  have hHeld:W.drew.cell? ⟨w.heap.size,2,none⟩=some (.int .i64 id)∧W.drew.cell? ⟨p,2,none⟩=some (.slice ba3 l3.length ca3):=hq.out
  refine wpLate.take0 (i:=0) (oi:=?_) (v:=?_) ?_ (by kernel_rfl) (by kernel_rfl) (by kernel_rfl) (by kernel_rfl) ?_ (Or.inl ⟨?_,?_⟩) (fun _=>hHeld) ?_
  rotate_left 2
  ·simp only [sD,sE,sF];rfl
  ·exact fun _ _ _ h=>h
  ·rfl
  ·intro w' hSw;clear hSw;go_simp;(try with_reducible rfl)
  (try simp only [Act.put,sA,sB,sC])
  refine wpLate.take0 (i:=1) (oi:=?_) (v:=?_) ?_ (by kernel_rfl) (by kernel_rfl) (by kernel_rfl) (by kernel_rfl) ?_ (Or.inl ⟨?_,?_⟩) (fun _=>hHeld) ?_
  rotate_left 2
  ·simp only [sD,sE,sF];rfl
  ·exact fun _ _ _ h=>h
  ·rfl
  ·intro w' hSw;clear hSw;go_simp;(try with_reducible rfl)
  (try simp only [Act.put,sA,sB,sC])
  refine wpLate.take0 (i:=2) (oi:=?_) (v:=?_) ?_ (by kernel_rfl) (by kernel_rfl) (by kernel_rfl) (by kernel_rfl) ?_ (Or.inl ⟨?_,?_⟩) (fun _=>hHeld) ?_
  rotate_left 2
  ·simp only [sD,sE,sF];rfl
  ·exact fun _ _ _ h=>h
  ·rfl
  ·intro w' hSw;clear hSw;go_simp;(try with_reducible rfl)
  (try simp only [Act.put,sA,sB,sC])
  refine wpLate.take0 (i:=3) (oi:=?_) (v:=?_) ?_ (by kernel_rfl) (by kernel_rfl) (by kernel_rfl) (by kernel_rfl) ?_ (Or.inl ⟨?_,?_⟩) (fun _=>hHeld) ?_
  rotate_left 2
  ·simp only [sD,sE,sF];rfl
  ·exact fun _ _ _ h=>h
  ·rfl
  ·intro w' hSw;clear hSw;go_simp;(try with_reducible rfl)
  (try simp only [Act.put,sA,sB,sC])
  refine wpLate.take0 (i:=5) (oi:=?_) (v:=?_) ?_ (by kernel_rfl) (by kernel_rfl) (by kernel_rfl) (by kernel_rfl) ?_ (Or.inl ⟨?_,?_⟩) (fun _=>hHeld) ?_
  rotate_left 2
  ·simp only [sD,sE,sF];rfl
  ·exact fun _ _ _ h=>h
  ·rfl
  ·intro w' hSw;clear hSw;go_simp;(try with_reducible rfl)
  (try simp only [Act.put,sA,sB,sC])
  refine wpLate.take1 (i:=4) (oi:=?_) (v:=?_) ?_ (by kernel_rfl) (by kernel_rfl) (by kernel_rfl) (by kernel_rfl) (by kernel_rfl) (by kernel_rfl) ?_ (Or.inl ⟨?_,?_⟩) hHeld ?_
  rotate_left 2
  ·simp only [sD,sE,sF];rfl
  ·exact fun _ _ _ h=>h
  ·rfl
  ·intro w' hSw;(try dsimp only at hSw);go_simp;(try with_reducible rfl)
  (try simp only [Act.put,sA,sB,sC])
  refine wpLate.take1 (i:=6) (oi:=?_) (v:=?_) ?_ (by kernel_rfl) (by kernel_rfl) (by kernel_rfl) (by kernel_rfl) (by kernel_rfl) (by kernel_rfl) ?_ (Or.inl ⟨?_,?_⟩) hHeld ?_
  rotate_left 2
  ·simp only [sD,sE,sF];rfl
  ·exact fun _ _ _ h=>h
  ·rfl
  ·intro w' hSw;(try dsimp only at hSw);go_simp;(try with_reducible rfl)
  (try simp only [Act.put,sA,sB,sC])
  refine wpLate.one (i:=7) (o:=?_) (by kernel_rfl) ?_ (fun K hK=>?_)
  rotate_left 1
  ·simp only [sD,sE,sF];rfl
  go_simp
  (refine A1.out.mono ?_;rintro e w2 ⟨⟨v',rfl,hv⟩,hb1⟩;have hb:Below W.heap.size W w2:=(Below.refl _ W).drew.trans hb1;clear hb1)
  have hHeld:=(show w2.cell? ⟨w.heap.size,2,none⟩=some (.int .i64 id)∧w2.cell? ⟨p,2,none⟩=some (.slice ba3 l3.length ca3) from ⟨keepcell hb hq.out.1,keepcell hb hq.out.2⟩)
  refine hK.out _ _ (fun _=>hHeld) ?_
  clear hK K
  (try simp only [Act.put,sA,sB,sC])
  have HB2:=HB.out.ch (Ch.off hb) (fun _ _ h=>h)
  have e0:=HB2.head.cell 2;have f0:=HB2.head.frozen 2;dsimp only at e0;obtain ⟨bb,cc,rfl⟩:=hv.form
  obtain ⟨Q,hQc⟩:=HB.out.put3 (ints_new hv) ((Ch.off hb).mono (fun _ _ h=>h.elim))
  replace Q:=Hd Q;replace hQc:=Hd hQc;have hss:=Hd hb.size
  refine wpLate.take0 (i:=8) (oi:=?_) (v:=?_) ?_ (by kernel_rfl) (by kernel_rfl) (by kernel_rfl) (by kernel_rfl) ?_ (Or.inl ⟨?_,?_⟩) (fun _=>hHeld) ?_
  rotate_left 2
  ·simp only [sD,sE,sF];rfl
  ·exact fun _ _ _ h=>h
  ·rfl
  ·intro w' hSw;clear hSw;go_simp;(try with_reducible rfl)
  (try simp only [Act.put,sA,sB,sC])
  refine wpLate.take0 (i:=9) (oi:=?_) (v:=?_) ?_ (by kernel_rfl) (by kernel_rfl) (by kernel_rfl) (by kernel_rfl) ?_ (Or.inl ⟨?_,?_⟩) (fun _=>hHeld) ?_
  rotate_left 2
  ·simp only [sD,sE,sF];rfl
  ·exact fun _ _ _ h=>h
  ·rfl
  ·intro w' hSw;clear hSw;go_simp;(try with_reducible rfl)
  (try simp only [Act.put,sA,sB,sC])
  refine wpLate.take0 (i:=10) (oi:=?_) (v:=?_) ?_ (by kernel_rfl) (by kernel_rfl) (by kernel_rfl) (by kernel_rfl) ?_ (Or.inl ⟨?_,?_⟩) (fun _=>hHeld) ?_
  rotate_left 2
  ·simp only [sD,sE,sF];rfl
  ·exact fun _ _ _ h=>h
  ·rfl
  ·intro w' hSw;clear hSw;go_simp;(try with_reducible rfl)
  (try simp only [Act.put,sA,sB,sC])
  refine wpLate.take0 (i:=11) (oi:=?_) (v:=?_) ?_ (by kernel_rfl) (by kernel_rfl) (by kernel_rfl) (by kernel_rfl) ?_ (Or.inl ⟨?_,?_⟩) (fun _=>hHeld) ?_
  rotate_left 2
  ·simp only [sD,sE,sF];rfl
  ·exact fun _ _ _ h=>h
  ·rfl
  ·intro w' hSw;clear hSw;go_simp;(try with_reducible rfl)
  (try simp only [Act.put,sA,sB,sC])
  refine wpLate.take0 (i:=12) (oi:=?_) (v:=?_) ?_ (by kernel_rfl) (by kernel_rfl) (by kernel_rfl) (by kernel_rfl) ?_ (Or.inl ⟨?_,?_⟩) (fun _=>hHeld) ?_
  rotate_left 2
  ·simp only [sD,sE,sF];rfl
  ·exact fun _ _ _ h=>h
  ·rfl
  ·intro w' hSw;clear hSw;go_simp;(try with_reducible rfl)
  (try simp only [Act.put,sA,sB,sC])
  refine wpLate.one (i:=13) (o:=?_) (by kernel_rfl) ?_ (fun K hK=>?_)
  rotate_left 1
  ·simp only [sD,sE,sF];rfl
  go_simp
  refine hK.out _ _ (fun e=>Bool.noConfusion (e 13 (by simp))) ?_
  clear hK K
  (try simp only [Act.put,sA,sB,sC])
  refine wpLate.one (i:=14) (o:=?_) (by kernel_rfl) ?_ (fun K hK=>?_)
  rotate_left 1
  ·simp only [sD,sE,sF];rfl
  go_simp
  refine hK.out _ _ (fun e=>Bool.noConfusion (e 13 (by simp))) ?_
  clear hK K
  (try simp only [Act.put,sA,sB,sC])
  refine wpLate.done (by kernel_rfl) ?_ _
  clear HB2 e0 f0 hb hv hHeld hq A1 c0 c2 d0
  obtain ⟨W3,hW3⟩:∃ W3,W3=w2.setCell ⟨p,2,none⟩ (.slice bb (l3.erase id).length cc):=⟨_,rfl⟩
  have hs3:Hid (w2.heap.size≤W3.heap.size):=Hd (by rw [hW3];simp)
  rw [← hW3] at Q hQc;rw [← hW3];replace hW3:=Hd hW3;have e3:=Q.out.head.cell 3;have f3:=Q.out.head.frozen 3;dsimp only at e3
  obtain ⟨Q2,hQ2⟩:=Q.out.setok (ok && hd)
  replace Q2:=Hd Q2;replace hQ2:=Hd hQ2;clear Q
  cases ok
  all_goals
   go_wp2;go_end0
   exact ⟨rfl,BookQ.close hb0.out (Nat.le_trans (Nat.le_refl _) hs3.out) hQc.out hQ2.out Q2.out⟩
 rw [if_neg k3]
 have g3:(kind == 3)=false:=by simpa using k3
 have d3:=HB.out.head.cell 3;have f3:=HB.out.head.frozen 3;have hW1:=hW.out;have c0:=HX.out.cell 0;dsimp only at c0 d3;rw [hW1] at d3 f3 c0;clear hW1
 obtain ⟨Q2,hQ2⟩:=HB.out.setok ok
 replace Q2:=Hd Q2;replace hQ2:=Hd hQ2
 cases ok
 all_goals
  go_enter func39,ntmps39
  go_wp2;go_end0;rw [← hW.out]
  exact ⟨rfl,BookQ.close hb0.out (Nat.le_refl _) (Ch.refl F _) (by rw [Plus.self];exact hQ2.out) (by rw [Plus.self];exact Q2.out)⟩
def bookRet (b:Book) (e:Ev) (id timer:Int):Book :=
 if e.kind=18 then { b with works:=b.works++[id] }
 else if e.kind=20 then { b with calls:=b.calls++[id] }
 else if e.kind=10∨e.kind=6 then { b with timers:=b.timers++[id] }
 else if e.kind=11 then { b with timers:=b.timers.erase e.id,ok:=b.ok && b.timers.contains e.id }
 else if e.kind=7∨e.kind=4 then (if 0 < timer then { b with timers:=b.timers.erase timer,ok:=b.ok && b.timers.contains timer } else b)
 else b
theorem ret_any {b:Book} (h:BookAt w F p b) (hs:shortB b) (x:Ev) (id timer:Int) (kp:Nat):Calls prog 40 #[.pointer (some ⟨p,0,none⟩),.pointer (some ⟨kp,0,none⟩),.agg (evC x),.int .i64 id,.int .i64 timer] w fun e w'=>e=.returned (.tuple #[])∧BkS w w' F p (bookRet b x id timer):=by
 obtain ⟨v1,v2,v3,c,h⟩:=h;obtain ⟨ba1,ca1,rfl⟩:=h.i1.form;obtain ⟨ba2,ca2,rfl⟩:=h.i2.form;obtain ⟨ba3,ca3,rfl⟩:=h.i3.form;obtain ⟨l1,l2,l3,ok⟩:=b;obtain ⟨kind,cpu,eid,mask,n⟩:=x;unfold bookRet
 dsimp only [shortB] at hs ⊢
 unfold evC;dsimp only
 have hb0:Below w.heap.size w (w.alloc (.cells #[.int .i64 kind,.int .i64 cpu,.int .i64 eid,.int .u64 mask,.int .i64 n] 39)):=(Below.refl _ _).alloc (Nat.le_refl _) _
 have HX:=Hd (Blk.new w #[.int .i64 kind,.int .i64 cpu,.int .i64 eid,.int .u64 mask,.int .i64 n] 39)
 have HB:=Hd (h.ch (Ch.off hb0) (fun _ _ h=>h))
 obtain ⟨W,hW⟩:∃ W,W=w.alloc (.cells #[.int .i64 kind,.int .i64 cpu,.int .i64 eid,.int .u64 mask,.int .i64 n] 39):=⟨_,rfl⟩
 have hsz:Hid (w.heap.size+1=W.heap.size):=Hd (by rw [hW];simp)
 rw [← hW] at HX HB hb0;replace hW:=Hd hW;replace hb0:=Hd hb0;have hlt:=Hd h.lt;have hF2:=Hd h.fp.1;clear h
 by_cases k18:kind=18
 ·subst k18
  rw [if_pos rfl];have c0:=HX.out.cell 0;have d0:=HB.out.head.cell 0;dsimp only at c0 d0
  have hle:l1.length≤1099511627776:=Nat.le_trans hs.1 (by omega)
  have hW1:=hW.out.symm
  go_enter func40,ntmps40
  go_wp2_with (at_builtin;refine wpList_app1 (n:=id) rfl _ _ rfl (IntsAt.same HB.out.i1 ?_) (by rfl) (by rfl) ?_ hle ?_)
  ·first | exact (by (repeat (first | with_reducible exact Ch.refl _ _ | (with_reducible refine Ch.alloc ?_ _) | (with_reducible refine Ch.drew ?_) | (with_reducible refine Ch.drewN ?_ _)))) | exact cell_at1 _ _ rfl
  intro v' w2 h1 hc1
  obtain ⟨bb,cc,rfl⟩:=h1.form
  have hcw:Ch (Col F c 1) W w2:=((Ch.refl (Col F c 1) W).alloc _).trans hc1
  obtain ⟨Q,hQc⟩:=HB.out.put1 (h1.mono (Plus.cover (w:=W) (by simp))) hcw
  rw [show (l1++[id]).length=l1.length+1 by simp] at Q hQc
  have HP:Blk w2 p _ 77:=HB.out.head.ch hcw (Col.apart (by omega) _ HB.out.fp)
  have e0:=HP.cell 0;have f0:=HP.frozen 0;have e3:=HP.cell 3;have f3:=HP.frozen 3;dsimp only at e0 e3
  obtain ⟨Q2,hQ2⟩:=Q.setok ok
  replace Q2:=Hd Q2;replace hQ2:=Hd hQ2;replace hQc:=Hd hQc;clear Q HP hcw hc1 h1 c0 d0
  cases ok
  all_goals
   go_wp2;go_end0
   exact ⟨rfl,BookQ.close hb0.out (by simp) hQc.out hQ2.out Q2.out⟩
 have g18:(kind == 18)=false:=by simpa using k18
 rw [if_neg k18]
 by_cases k20:kind=20
 ·subst k20
  rw [if_pos rfl];have c0:=HX.out.cell 0;have d0:=HB.out.head.cell 1;dsimp only at c0 d0
  have hle:l2.length≤1099511627776:=Nat.le_trans hs.2.1 (by omega)
  have hW1:=hW.out.symm
  go_enter func40,ntmps40
  go_wp2_with (at_builtin;refine wpList_app1 (n:=id) rfl _ _ rfl (IntsAt.same HB.out.i2 ?_) (by rfl) (by rfl) ?_ hle ?_)
  ·first | exact (by (repeat (first | with_reducible exact Ch.refl _ _ | (with_reducible refine Ch.alloc ?_ _) | (with_reducible refine Ch.drew ?_) | (with_reducible refine Ch.drewN ?_ _)))) | exact cell_at1 _ _ rfl
  intro v' w2 h1 hc1
  obtain ⟨bb,cc,rfl⟩:=h1.form
  have hcw:Ch (Col F c 2) W w2:=((Ch.refl (Col F c 2) W).alloc _).trans hc1
  obtain ⟨Q,hQc⟩:=HB.out.put2 (h1.mono (Plus.cover (w:=W) (by simp))) hcw
  rw [show (l2++[id]).length=l2.length+1 by simp] at Q hQc
  have HP:Blk w2 p _ 77:=HB.out.head.ch hcw (Col.apart (by omega) _ HB.out.fp)
  have e0:=HP.cell 1;have f0:=HP.frozen 1;have e3:=HP.cell 3;have f3:=HP.frozen 3;dsimp only at e0 e3
  obtain ⟨Q2,hQ2⟩:=Q.setok ok
  replace Q2:=Hd Q2;replace hQ2:=Hd hQ2;replace hQc:=Hd hQc;clear Q HP hcw hc1 h1 c0 d0
  cases ok
  all_goals
   go_wp2;go_end0
   exact ⟨rfl,BookQ.close hb0.out (by simp) hQc.out hQ2.out Q2.out⟩
 have g20:(kind == 20)=false:=by simpa using k20
 rw [if_neg k20]
 by_cases k10:kind=10
 ·subst k10
  rw [if_pos (.inl rfl)];have c0:=HX.out.cell 0;have d0:=HB.out.head.cell 2;dsimp only at c0 d0
  have hle:l3.length≤1099511627776:=Nat.le_trans hs.2.2 (by omega)
  have hW1:=hW.out.symm
  go_enter func40,ntmps40
  go_wp2_with (at_builtin;refine wpList_app1 (n:=id) rfl _ _ rfl (IntsAt.same HB.out.i3 ?_) (by rfl) (by rfl) ?_ hle ?_)
  ·first | exact (by (repeat (first | with_reducible exact Ch.refl _ _ | (with_reducible refine Ch.alloc ?_ _) | (with_reducible refine Ch.drew ?_) | (with_reducible refine Ch.drewN ?_ _)))) | exact cell_at1 _ _ rfl
  intro v' w2 h1 hc1
  obtain ⟨bb,cc,rfl⟩:=h1.form
  have hcw:Ch (Col F c 3) W w2:=((Ch.refl (Col F c 3) W).alloc _).trans hc1
  obtain ⟨Q,hQc⟩:=HB.out.put3 (h1.mono (Plus.cover (w:=W) (by simp))) hcw
  rw [show (l3++[id]).length=l3.length+1 by simp] at Q hQc
  have HP:Blk w2 p _ 77:=HB.out.head.ch hcw (Col.apart (by omega) _ HB.out.fp)
  have e0:=HP.cell 2;have f0:=HP.frozen 2;have e3:=HP.cell 3;have f3:=HP.frozen 3;dsimp only at e0 e3
  obtain ⟨Q2,hQ2⟩:=Q.setok ok
  replace Q2:=Hd Q2;replace hQ2:=Hd hQ2;replace hQc:=Hd hQc;clear Q HP hcw hc1 h1 c0 d0
  cases ok
  all_goals
   go_wp2;go_end0
   exact ⟨rfl,BookQ.close hb0.out (by simp) hQc.out hQ2.out Q2.out⟩
 have g10:(kind == 10)=false:=by simpa using k10
 by_cases k6:kind=6
 ·subst k6
  rw [if_pos (.inr rfl)];have c0:=HX.out.cell 0;have d0:=HB.out.head.cell 2;dsimp only at c0 d0
  have hle:l3.length≤1099511627776:=Nat.le_trans hs.2.2 (by omega)
  have hW1:=hW.out.symm
  go_enter func40,ntmps40
  go_wp2_with (at_builtin;refine wpList_app1 (n:=id) rfl _ _ rfl (IntsAt.same HB.out.i3 ?_) (by rfl) (by rfl) ?_ hle ?_)
  ·first | exact (by (repeat (first | with_reducible exact Ch.refl _ _ | (with_reducible refine Ch.alloc ?_ _) | (with_reducible refine Ch.drew ?_) | (with_reducible refine Ch.drewN ?_ _)))) | exact cell_at1 _ _ rfl
  intro v' w2 h1 hc1
  obtain ⟨bb,cc,rfl⟩:=h1.form
  have hcw:Ch (Col F c 3) W w2:=((Ch.refl (Col F c 3) W).alloc _).trans hc1
  obtain ⟨Q,hQc⟩:=HB.out.put3 (h1.mono (Plus.cover (w:=W) (by simp))) hcw
  rw [show (l3++[id]).length=l3.length+1 by simp] at Q hQc
  have HP:Blk w2 p _ 77:=HB.out.head.ch hcw (Col.apart (by omega) _ HB.out.fp)
  have e0:=HP.cell 2;have f0:=HP.frozen 2;have e3:=HP.cell 3;have f3:=HP.frozen 3;dsimp only at e0 e3
  obtain ⟨Q2,hQ2⟩:=Q.setok ok
  replace Q2:=Hd Q2;replace hQ2:=Hd hQ2;replace hQc:=Hd hQc;clear Q HP hcw hc1 h1 c0 d0
  cases ok
  all_goals
   go_wp2;go_end0
   exact ⟨rfl,BookQ.close hb0.out (by simp) hQc.out hQ2.out Q2.out⟩
 have g6:(kind == 6)=false:=by simpa using k6
 rw [if_neg (show ¬ (kind=10∨kind=6) by omega)]
 by_cases k11:kind=11
 ·subst k11
  rw [if_pos rfl];have c0:=HX.out.cell 0;have c2:=HX.out.cell 2;have d0:=HB.out.head.cell 2;dsimp only at c0 c2 d0
  have A1:=Hd (without_any W.drew (IntsAt.ch HB.out.i3 ((Ch.refl (fun _=>False) _).drew) (fun _ _ h=>h)) (fun x hx=>HB.out.lt x hx.1) hs.2.2 eid)
  obtain ⟨hd,hhd⟩:∃ hd,hd=l3.contains eid:=⟨_,rfl⟩
  rw [← hhd] at A1 ⊢;replace hhd:=Hd hhd
  have hq:W.cell? ⟨w.heap.size,2,none⟩=some (.int .i64 eid)∧W.cell? ⟨p,2,none⟩=some (.slice ba3 l3.length ca3):=⟨c2,d0⟩
  replace hq:=Hd hq;have hW1:=hW.out.symm
  go_enter func40,ntmps40
  go_wp2_with fail
  refine wp_region_late (S:=fun w'=>w'.cell? ⟨w.heap.size,2,none⟩=some (.int .i64 eid)∧w'.cell? ⟨p,2,none⟩=some (.slice ba3 l3.length ca3)) (late:=[13]) (by kernel_rfl) ?_
  have hHeld:W.drew.cell? ⟨w.heap.size,2,none⟩=some (.int .i64 eid)∧W.drew.cell? ⟨p,2,none⟩=some (.slice ba3 l3.length ca3):=hq.out
  refine wpLate.take0 (i:=0) (oi:=?_) (v:=?_) ?_ (by kernel_rfl) (by kernel_rfl) (by kernel_rfl) (by kernel_rfl) ?_ (Or.inl ⟨?_,?_⟩) (fun _=>hHeld) ?_
  rotate_left 2
  ·simp only [sD,sE,sF];rfl
  ·exact fun _ _ _ h=>h
  ·rfl
  ·intro w' hSw;clear hSw;go_simp;(try with_reducible rfl)
  (try simp only [Act.put,sA,sB,sC])
  refine wpLate.take0 (i:=1) (oi:=?_) (v:=?_) ?_ (by kernel_rfl) (by kernel_rfl) (by kernel_rfl) (by kernel_rfl) ?_ (Or.inl ⟨?_,?_⟩) (fun _=>hHeld) ?_
  rotate_left 2
  ·simp only [sD,sE,sF];rfl
  ·exact fun _ _ _ h=>h
  ·rfl
  ·intro w' hSw;clear hSw;go_simp;(try with_reducible rfl)
  (try simp only [Act.put,sA,sB,sC])
  refine wpLate.take0 (i:=2) (oi:=?_) (v:=?_) ?_ (by kernel_rfl) (by kernel_rfl) (by kernel_rfl) (by kernel_rfl) ?_ (Or.inl ⟨?_,?_⟩) (fun _=>hHeld) ?_
  rotate_left 2
  ·simp only [sD,sE,sF];rfl
  ·exact fun _ _ _ h=>h
  ·rfl
  ·intro w' hSw;clear hSw;go_simp;(try with_reducible rfl)
  (try simp only [Act.put,sA,sB,sC])
  refine wpLate.take0 (i:=3) (oi:=?_) (v:=?_) ?_ (by kernel_rfl) (by kernel_rfl) (by kernel_rfl) (by kernel_rfl) ?_ (Or.inl ⟨?_,?_⟩) (fun _=>hHeld) ?_
  rotate_left 2
  ·simp only [sD,sE,sF];rfl
  ·exact fun _ _ _ h=>h
  ·rfl
  ·intro w' hSw;clear hSw;go_simp;(try with_reducible rfl)
  (try simp only [Act.put,sA,sB,sC])
  refine wpLate.take0 (i:=5) (oi:=?_) (v:=?_) ?_ (by kernel_rfl) (by kernel_rfl) (by kernel_rfl) (by kernel_rfl) ?_ (Or.inl ⟨?_,?_⟩) (fun _=>hHeld) ?_
  rotate_left 2
  ·simp only [sD,sE,sF];rfl
  ·exact fun _ _ _ h=>h
  ·rfl
  ·intro w' hSw;clear hSw;go_simp;(try with_reducible rfl)
  (try simp only [Act.put,sA,sB,sC])
  refine wpLate.take1 (i:=4) (oi:=?_) (v:=?_) ?_ (by kernel_rfl) (by kernel_rfl) (by kernel_rfl) (by kernel_rfl) (by kernel_rfl) (by kernel_rfl) ?_ (Or.inl ⟨?_,?_⟩) hHeld ?_
  rotate_left 2
  ·simp only [sD,sE,sF];rfl
  ·exact fun _ _ _ h=>h
  ·rfl
  ·intro w' hSw;(try dsimp only at hSw);go_simp;(try with_reducible rfl)
  (try simp only [Act.put,sA,sB,sC])
  refine wpLate.take1 (i:=6) (oi:=?_) (v:=?_) ?_ (by kernel_rfl) (by kernel_rfl) (by kernel_rfl) (by kernel_rfl) (by kernel_rfl) (by kernel_rfl) ?_ (Or.inl ⟨?_,?_⟩) hHeld ?_
  rotate_left 2
  ·simp only [sD,sE,sF];rfl
  ·exact fun _ _ _ h=>h
  ·rfl
  ·intro w' hSw;(try dsimp only at hSw);go_simp;(try with_reducible rfl)
  (try simp only [Act.put,sA,sB,sC])
  refine wpLate.one (i:=7) (o:=?_) (by kernel_rfl) ?_ (fun K hK=>?_)
  rotate_left 1
  ·simp only [sD,sE,sF];rfl
  go_simp
  (refine A1.out.mono ?_;rintro e w2 ⟨⟨v',rfl,hv⟩,hb1⟩;have hb:Below W.heap.size W w2:=(Below.refl _ W).drew.trans hb1;clear hb1)
  have hHeld:=(show w2.cell? ⟨w.heap.size,2,none⟩=some (.int .i64 eid)∧w2.cell? ⟨p,2,none⟩=some (.slice ba3 l3.length ca3) from ⟨keepcell hb hq.out.1,keepcell hb hq.out.2⟩)
  refine hK.out _ _ (fun _=>hHeld) ?_
  clear hK K
  (try simp only [Act.put,sA,sB,sC])
  have HB2:=HB.out.ch (Ch.off hb) (fun _ _ h=>h)
  have e0:=HB2.head.cell 2;have f0:=HB2.head.frozen 2;dsimp only at e0;obtain ⟨bb,cc,rfl⟩:=hv.form
  obtain ⟨Q,hQc⟩:=HB.out.put3 (ints_new hv) ((Ch.off hb).mono (fun _ _ h=>h.elim))
  replace Q:=Hd Q;replace hQc:=Hd hQc;have hss:=Hd hb.size
  refine wpLate.take0 (i:=8) (oi:=?_) (v:=?_) ?_ (by kernel_rfl) (by kernel_rfl) (by kernel_rfl) (by kernel_rfl) ?_ (Or.inl ⟨?_,?_⟩) (fun _=>hHeld) ?_
  rotate_left 2
  ·simp only [sD,sE,sF];rfl
  ·exact fun _ _ _ h=>h
  ·rfl
  ·intro w' hSw;clear hSw;go_simp;(try with_reducible rfl)
  (try simp only [Act.put,sA,sB,sC])
  refine wpLate.take0 (i:=9) (oi:=?_) (v:=?_) ?_ (by kernel_rfl) (by kernel_rfl) (by kernel_rfl) (by kernel_rfl) ?_ (Or.inl ⟨?_,?_⟩) (fun _=>hHeld) ?_
  rotate_left 2
  ·simp only [sD,sE,sF];rfl
  ·exact fun _ _ _ h=>h
  ·rfl
  ·intro w' hSw;clear hSw;go_simp;(try with_reducible rfl)
  (try simp only [Act.put,sA,sB,sC])
  refine wpLate.take0 (i:=10) (oi:=?_) (v:=?_) ?_ (by kernel_rfl) (by kernel_rfl) (by kernel_rfl) (by kernel_rfl) ?_ (Or.inl ⟨?_,?_⟩) (fun _=>hHeld) ?_
  rotate_left 2
  ·simp only [sD,sE,sF];rfl
  ·exact fun _ _ _ h=>h
  ·rfl
  ·intro w' hSw;clear hSw;go_simp;(try with_reducible rfl)
  (try simp only [Act.put,sA,sB,sC])
  refine wpLate.take0 (i:=11) (oi:=?_) (v:=?_) ?_ (by kernel_rfl) (by kernel_rfl) (by kernel_rfl) (by kernel_rfl) ?_ (Or.inl ⟨?_,?_⟩) (fun _=>hHeld) ?_
  rotate_left 2
  ·simp only [sD,sE,sF];rfl
  ·exact fun _ _ _ h=>h
  ·rfl
  ·intro w' hSw;clear hSw;go_simp;(try with_reducible rfl)
  (try simp only [Act.put,sA,sB,sC])
  refine wpLate.take0 (i:=12) (oi:=?_) (v:=?_) ?_ (by kernel_rfl) (by kernel_rfl) (by kernel_rfl) (by kernel_rfl) ?_ (Or.inl ⟨?_,?_⟩) (fun _=>hHeld) ?_
  rotate_left 2
  ·simp only [sD,sE,sF];rfl
  ·exact fun _ _ _ h=>h
  ·rfl
  ·intro w' hSw;clear hSw;go_simp;(try with_reducible rfl)
  (try simp only [Act.put,sA,sB,sC])
  refine wpLate.one (i:=13) (o:=?_) (by kernel_rfl) ?_ (fun K hK=>?_)
  rotate_left 1
  ·simp only [sD,sE,sF];rfl
  go_simp
  refine hK.out _ _ (fun e=>Bool.noConfusion (e 13 (by simp))) ?_
  clear hK K
  (try simp only [Act.put,sA,sB,sC])
  refine wpLate.one (i:=14) (o:=?_) (by kernel_rfl) ?_ (fun K hK=>?_)
  rotate_left 1
  ·simp only [sD,sE,sF];rfl
  go_simp
  refine hK.out _ _ (fun e=>Bool.noConfusion (e 13 (by simp))) ?_
  clear hK K
  (try simp only [Act.put,sA,sB,sC])
  refine wpLate.done (by kernel_rfl) ?_ _
  clear HB2 e0 f0 hb hv hHeld hq A1 c0 c2 d0
  obtain ⟨W3,hW3⟩:∃ W3,W3=w2.setCell ⟨p,2,none⟩ (.slice bb (l3.erase eid).length cc):=⟨_,rfl⟩
  have hs3:Hid (w2.heap.size≤W3.heap.size):=Hd (by rw [hW3];simp)
  rw [← hW3] at Q hQc;rw [← hW3];replace hW3:=Hd hW3;have e3:=Q.out.head.cell 3;have f3:=Q.out.head.frozen 3;dsimp only at e3
  obtain ⟨Q2,hQ2⟩:=Q.out.setok (ok && hd)
  replace Q2:=Hd Q2;replace hQ2:=Hd hQ2;clear Q
  cases ok <;> cases hd
  all_goals
   go_wp2;go_end0
   exact ⟨rfl,BookQ.close hb0.out hs3.out hQc.out hQ2.out Q2.out⟩
 have g11:(kind == 11)=false:=by simpa using k11
 rw [if_neg k11]
 by_cases k7:kind=7
 ·subst k7
  rw [if_pos (.inl rfl)]
  by_cases ht:0 < timer
  ·rw [if_pos ht]
   have c0:=HX.out.cell 0;have c2:=HX.out.cell 2;have d0:=HB.out.head.cell 2;dsimp only at c0 c2 d0
   have A1:=Hd (without_any W (IntsAt.ch HB.out.i3 (Ch.refl (fun _=>False) _) (fun _ _ h=>h)) (fun x hx=>HB.out.lt x hx.1) hs.2.2 timer)
   obtain ⟨hd,hhd⟩:∃ hd,hd=l3.contains timer:=⟨_,rfl⟩
   rw [← hhd] at A1 ⊢;replace hhd:=Hd hhd
   have hq:W.cell? ⟨w.heap.size,2,none⟩=some (.int .i64 eid)∧W.cell? ⟨p,2,none⟩=some (.slice ba3 l3.length ca3):=⟨c2,d0⟩
   replace hq:=Hd hq;have hW1:=hW.out.symm
   go_enter func40,ntmps40
   go_wp2_with fail;refine A1.out.mono ?_;rintro e w2 ⟨⟨v',rfl,hv⟩,hb⟩
   have HB2:=HB.out.ch (Ch.off hb) (fun _ _ h=>h)
   have e0:=HB2.head.cell 2;have f0:=HB2.head.frozen 2;dsimp only at e0;obtain ⟨bb,cc,rfl⟩:=hv.form
   obtain ⟨Q,hQc⟩:=HB.out.put3 (ints_new hv) ((Ch.off hb).mono (fun _ _ h=>h.elim))
   replace Q:=Hd Q;replace hQc:=Hd hQc;have hss:=Hd hb.size;have e3:=HB2.head.cell 3;have f3:=HB2.head.frozen 3;dsimp only at e3
   obtain ⟨Q2,hQ2⟩:=Q.out.setok (ok && hd)
   replace Q2:=Hd Q2;replace hQ2:=Hd hQ2;clear HB2 hb hv hq A1 c0 c2 d0 Q
   cases ok <;> cases hd
   all_goals
    go_wp2;go_end0
    exact ⟨rfl,BookQ.close hb0.out (by simp) hQc.out hQ2.out Q2.out⟩
  ·rw [if_neg ht]
   have hW1:=hW.out.symm;have d3:=HB.out.head.cell 3;have f3:=HB.out.head.frozen 3;have c0:=HX.out.cell 0;dsimp only at c0 d3
   obtain ⟨Q2,hQ2⟩:=HB.out.setok ok
   replace Q2:=Hd Q2;replace hQ2:=Hd hQ2
   cases ok
   all_goals
    go_enter func40,ntmps40
    go_wp2;go_end0
    exact ⟨rfl,BookQ.close hb0.out (Nat.le_refl _) (Ch.refl F _) (by rw [Plus.self];exact hQ2.out) (by rw [Plus.self];exact Q2.out)⟩
 have g7:(kind == 7)=false:=by simpa using k7
 by_cases k4:kind=4
 ·subst k4
  rw [if_pos (.inr rfl)]
  by_cases ht:0 < timer
  ·rw [if_pos ht]
   have c0:=HX.out.cell 0;have c2:=HX.out.cell 2;have d0:=HB.out.head.cell 2;dsimp only at c0 c2 d0
   have A1:=Hd (without_any W (IntsAt.ch HB.out.i3 (Ch.refl (fun _=>False) _) (fun _ _ h=>h)) (fun x hx=>HB.out.lt x hx.1) hs.2.2 timer)
   obtain ⟨hd,hhd⟩:∃ hd,hd=l3.contains timer:=⟨_,rfl⟩
   rw [← hhd] at A1 ⊢;replace hhd:=Hd hhd
   have hq:W.cell? ⟨w.heap.size,2,none⟩=some (.int .i64 eid)∧W.cell? ⟨p,2,none⟩=some (.slice ba3 l3.length ca3):=⟨c2,d0⟩
   replace hq:=Hd hq;have hW1:=hW.out.symm
   go_enter func40,ntmps40
   go_wp2_with fail;refine A1.out.mono ?_;rintro e w2 ⟨⟨v',rfl,hv⟩,hb⟩
   have HB2:=HB.out.ch (Ch.off hb) (fun _ _ h=>h)
   have e0:=HB2.head.cell 2;have f0:=HB2.head.frozen 2;dsimp only at e0;obtain ⟨bb,cc,rfl⟩:=hv.form
   obtain ⟨Q,hQc⟩:=HB.out.put3 (ints_new hv) ((Ch.off hb).mono (fun _ _ h=>h.elim))
   replace Q:=Hd Q;replace hQc:=Hd hQc;have hss:=Hd hb.size;have e3:=HB2.head.cell 3;have f3:=HB2.head.frozen 3;dsimp only at e3
   obtain ⟨Q2,hQ2⟩:=Q.out.setok (ok && hd)
   replace Q2:=Hd Q2;replace hQ2:=Hd hQ2;clear HB2 hb hv hq A1 c0 c2 d0 Q
   cases ok <;> cases hd
   all_goals
    go_wp2;go_end0
    exact ⟨rfl,BookQ.close hb0.out (by simp) hQc.out hQ2.out Q2.out⟩
  ·rw [if_neg ht]
   have hW1:=hW.out.symm;have d3:=HB.out.head.cell 3;have f3:=HB.out.head.frozen 3;have c0:=HX.out.cell 0;dsimp only at c0 d3
   obtain ⟨Q2,hQ2⟩:=HB.out.setok ok
   replace Q2:=Hd Q2;replace hQ2:=Hd hQ2
   cases ok
   all_goals
    go_enter func40,ntmps40
    go_wp2;go_end0
    exact ⟨rfl,BookQ.close hb0.out (Nat.le_refl _) (Ch.refl F _) (by rw [Plus.self];exact hQ2.out) (by rw [Plus.self];exact Q2.out)⟩
 have g4:(kind == 4)=false:=by simpa using k4
 rw [if_neg (show ¬ (kind=7∨kind=4) by omega)];have hW1:=hW.out.symm;have d3:=HB.out.head.cell 3;have f3:=HB.out.head.frozen 3;have c0:=HX.out.cell 0;dsimp only at c0 d3
 obtain ⟨Q2,hQ2⟩:=HB.out.setok ok
 replace Q2:=Hd Q2;replace hQ2:=Hd hQ2
 cases ok
 all_goals
  go_enter func40,ntmps40
  go_wp2;go_end0
  exact ⟨rfl,BookQ.close hb0.out (Nat.le_refl _) (Ch.refl F _) (by rw [Plus.self];exact hQ2.out) (by rw [Plus.self];exact Q2.out)⟩
theorem same_one {v1 v2:Value} {r:Rec} (h1:RecsAt w v1 [r]) (h2:RecsAt w v2 [r]):Calls prog 75 #[v1,v2] w fun e w'=>e=.returned (.bool true)∧∃ n,w'=w.drewN n:=by
 rcases h1 with ⟨h,_⟩ | ⟨b1,r1,h,rfl,B1⟩
 ·cases h
 rcases h2 with ⟨h',_⟩ | ⟨b2,r2,h',rfl,B2⟩
 ·cases h'
 cases h
 cases h'
 obtain ⟨kind,cpu,id,n,why⟩:=r;have a0:=B1.cell 0;have a1:=B1.cell 1;have a2:=B1.cell 2;have a3:=B1.cell 3;have a4:=B1.cell 4;have d0:=B2.cell 0;have d1:=B2.cell 1;have d2:=B2.cell 2;have d3:=B2.cell 3;have d4:=B2.cell 4
 simp only [recC] at a0 a1 a2 a3 a4 d0 d1 d2 d3 d4
 clear B1 B2
 go_enter func75,ntmps75
 go_wp2
 refine wp_loop_rounds 2 ?_
 rw [rounds_succ];go_wp2_with fail;go_quiet (fail);go_wp2_with fail;rw [rounds_succ];go_wp2;go_returns
 exact ⟨rfl,nq,rfl⟩
structure ThSame (t t':Threads):Prop where
 ids:t'.ids=t.ids
 keys:t'.all.map Prod.fst=t.all.map Prod.fst
 slp:∀ id,thT t' id=thT t id
theorem ThSame.refl (t:Threads):ThSame t t:=⟨rfl,rfl,fun _=>rfl⟩
theorem ThSame.trans {a b c:Threads} (h:ThSame a b) (k:ThSame b c):ThSame a c:=⟨k.ids.trans h.ids,k.keys.trans h.keys,fun id=>(k.slp id).trans (h.slp id)⟩
theorem ThSame.ok {t t':Threads} (h:ThSame t t') {own wh:List (Int × Int)} (k:ThOk t own wh):ThOk t' own wh:=k.same h.ids h.keys h.slp
theorem thPlace_same (th:Threads) (id cpu:Int) (fo:Bool):ThSame th (thPlace th id cpu fo).1:=by
 unfold thPlace
 cases hg:mget th.all id with
 | none=>exact ThSame.refl _
 | some x =>
  dsimp only
  split
  ·exact ThSame.refl _
  ·refine ⟨rfl,mput_keys_old (by rw [hg];rfl),fun j=>?_⟩
   rw [thT_put]
   split
   ·rename_i e
    subst e
    simp [thT,hg]
   ·rfl
theorem thAim_same (th:Threads) (id:Int) (m:Nat):ThSame th (thAim th id m).1:=by
 unfold thAim
 cases hg:mget th.all id with
 | none=>exact ThSame.refl _
 | some x =>
  dsimp only
  split
  ·refine ⟨rfl,mput_keys_old (by rw [hg];rfl),fun j=>?_⟩
   rw [thT_put]
   split
   ·rename_i e
    subst e
    simp [thT,hg]
   ·rfl
  ·exact ThSame.refl _
structure KSame (k k':K):Prop where
 th:ThSame k.th k'.th
 tm:k'.tm=k.tm
 own:k'.own=k.own
 wk:k'.wk=k.wk
 cl:k'.cl=k.cl
 co:k'.co=k.co
 gv:k'.gv=k.gv
 cpus:k'.cpus=k.cpus
 now:k'.now=k.now
 limit:k'.limit=k.limit
theorem KSame.refl (k:K):KSame k k:=⟨ThSame.refl _,rfl,rfl,rfl,rfl,rfl,rfl,rfl,rfl,rfl⟩
theorem KSame.trans {a b c:K} (h:KSame a b) (k:KSame b c):KSame a c :=
 ⟨h.th.trans k.th,k.tm.trans h.tm,k.own.trans h.own,k.wk.trans h.wk,k.cl.trans h.cl,k.co.trans h.co,k.gv.trans h.gv,k.cpus.trans h.cpus,k.now.trans h.now,k.limit.trans h.limit⟩
theorem KSame.fold {α:Type} {g:K→α→K} (hg:∀ k x,KSame k (g k x)):∀ (l:List α) (k:K),KSame k (l.foldl g k)
 | [],k=>KSame.refl k
 | x::l,k=>(hg k x).trans (KSame.fold hg l (g k x))
theorem kPut_same (k:K) (id near:Int):KSame k (kPut k id near):=⟨thPlace_same _ _ _ _,rfl,rfl,rfl,rfl,rfl,rfl,rfl,rfl,rfl⟩
theorem qs_same (k:K) (q:Runq):KSame k { k with qs:=q }:=⟨ThSame.refl _,rfl,rfl,rfl,rfl,rfl,rfl,rfl,rfl,rfl⟩
theorem kMend_same (k:K) (id:Int):KSame k (kMend k id):=by
 unfold kMend kMendW
 split
 ·exact KSame.refl _
 ·exact (qs_same k _).trans (kPut_same _ _ _)
theorem kLead_same (k:K) (n near:Int):KSame k (kLead k n near):=⟨ThSame.refl _,rfl,rfl,rfl,rfl,rfl,rfl,rfl,rfl,rfl⟩
theorem kAim_same (k:K) (n:Int):KSame k (kAim k n):=by
 unfold kAim
 split
 ·exact kLead_same _ _ _
 ·exact KSame.refl _
theorem kDone_same (k:K) (cpu:Int):KSame k (kDone k cpu):=⟨ThSame.refl _,rfl,rfl,rfl,rfl,rfl,rfl,rfl,rfl,rfl⟩
theorem kEmpty_same (k:K) (cpu:Int):KSame k (kEmpty k cpu).1:=by
 unfold kEmpty
 split
 ·exact KSame.refl _
 ·exact (qs_same k _).trans (kPut_same _ _ _)
theorem kHalt_same (k:K) (cpu by':Int):KSame k (kHalt k cpu by').1:=by
 unfold kHalt
 split
 ·split
  ·unfold kHaltE
   have h:=KSame.fold (g:=fun k n=>kLead k n cpu) (fun k n=>kLead_same k n cpu) (routeOn k.rt cpu) k
   exact ⟨h.th,h.tm,h.own,h.wk,h.cl,h.co,h.gv,h.cpus,h.now,h.limit⟩
  ·exact KSame.refl _
 ·exact ⟨ThSame.refl _,rfl,rfl,rfl,rfl,rfl,rfl,rfl,rfl,rfl⟩
theorem kComes_same (k:K) (cpu:Int):KSame k (kComeC (kComeB (kComeA k cpu))) :=
 have h1:KSame k (kComeA k cpu):=⟨ThSame.refl _,rfl,rfl,rfl,rfl,rfl,rfl,rfl,rfl,rfl⟩
 have h2:∀ k,KSame k (kComeB k):=fun k=>KSame.fold kMend_same _ k
 have h3:∀ k,KSame k (kComeC k):=fun k=>KSame.fold kAim_same _ k
 (h1.trans (h2 _)).trans (h3 _)
theorem kRequest_same (k:K) (up:Bool) (cpu:Int):KSame k (kRequest k up cpu):=by
 unfold kRequest
 split
 ·exact KSame.refl _
 ·exact ⟨ThSame.refl _,rfl,rfl,rfl,rfl,rfl,rfl,rfl,rfl,rfl⟩
theorem kPlan_same (k:K) (n:Int):KSame k (kPlan k n):=by
 unfold kPlan
 split
 ·exact KSame.refl _
 ·exact ⟨ThSame.refl _,rfl,rfl,rfl,rfl,rfl,rfl,rfl,rfl,rfl⟩
theorem iq_same (k:K) (q:Irqs):KSame k { k with iq:=q }:=⟨ThSame.refl _,rfl,rfl,rfl,rfl,rfl,rfl,rfl,rfl,rfl⟩
theorem kInterrupt_same (k:K) (e:Ev):KSame k (kInterrupt k e).1:=by
 unfold kInterrupt
 split
 ·dsimp only
  split
  ·exact (iq_same k _).trans (kLead_same _ _ _)
  ·exact iq_same k _
 split
 ·dsimp only
  split
  ·exact ⟨ThSame.refl _,rfl,rfl,rfl,rfl,rfl,rfl,rfl,rfl,rfl⟩
  ·exact iq_same k _
 split
 ·dsimp only
  split
  ·exact (iq_same k _).trans (kAim_same _ _)
  ·exact iq_same k _
 split
 ·exact iq_same k _
 split
 ·exact iq_same k _
 ·exact iq_same k _
theorem kBalance_same (k:K):KSame k (kBalance k).1:=by
 unfold kBalance
 split
 ·exact KSame.refl _
 ·split
  ·exact KSame.refl _
  ·exact ⟨thPlace_same _ _ _ _,rfl,rfl,rfl,rfl,rfl,rfl,rfl,rfl,rfl⟩
def CoOk (c:Core):Prop:=c.idle=true→c.power=true∧0≤c.way∧c.way < 4
def CosOk (k:K):Prop:=k.co.length=k.cpus∧∀ c∈k.co,CoOk c
theorem noCore_ok:CoOk noCore:=fun h=>by cases h
theorem getD_ok {l:List Core} (h:∀ c∈l,CoOk c) (i:Nat):CoOk (l.getD i noCore):=by
 rw [List.getD_eq_getElem?_getD]
 cases hg:l[i]? with
 | none=>exact noCore_ok
 | some c=>exact h c (List.mem_of_getElem? hg)
theorem coreSet_ok {l:List Core} (h:∀ c∈l,CoOk c) {f:Core→Core × Int} (hf:∀ c,CoOk c→CoOk (f c).1) (cpu:Int):(coreSet l cpu f).1.length=l.length∧∀ c∈(coreSet l cpu f).1,CoOk c:=by
 unfold coreSet
 split
 ·exact ⟨rfl,h⟩
 ·refine ⟨by simp,fun c hc=>?_⟩
  rcases List.mem_or_eq_of_mem_set hc with e | e
  ·exact h c e
  ·rw [e];exact hf _ (getD_ok h _)
theorem CosOk.set (h:CosOk k) {f:Core→Core × Int} (hf:∀ c,CoOk c→CoOk (f c).1) (cpu:Int):CosOk { k with co:=(coreSet k.co cpu f).1 } :=
 ⟨(coreSet_ok h.2 hf cpu).1.trans h.1,(coreSet_ok h.2 hf cpu).2⟩
theorem CosOk.same {k k':K} (h:CosOk k) (s:KSame k k'):CosOk k':=⟨by rw [s.co,s.cpus];exact h.1,by rw [s.co];exact h.2⟩
theorem countF_ok (b:Bool) (c:Core) (h:CoOk c):CoOk (countF b c).1:=h
theorem powerF_ok (on:Bool) (c:Core) (h:CoOk c):CoOk (powerF on c).1:=by
 unfold powerF
 split
 ·exact h
 ·exact fun e=>by cases e
theorem wakeF_ok (now:Int) (c:Core) (h:CoOk c):CoOk (wakeF now c).1:=by
 unfold wakeF
 split
 ·exact h
 split
 ·exact h
 ·exact fun e=>by cases e
theorem wayF_in (rest limit:Int):0≤wayF rest limit∧wayF rest limit < 4:=by
 unfold wayF
 split
 ·omega
 split
 ·omega
 split <;> omega
theorem restF_ok {way now:Int} (hw:0≤way∧way < 4) (c:Core) (h:CoOk c):CoOk (restF way now c).1:=by
 unfold restF
 split
 ·exact h
 split
 ·exact h
 ·rename_i e
  refine fun _=>⟨?_,hw⟩
  dsimp only
  cases hp:c.power with
  | true=>rfl
  | false=>exact absurd (.inl hp) e
theorem tickC_ok (c:Core) (h:CoOk c):CoOk (tickC c):=by
 unfold tickC
 split
 ·exact h
 ·exact h
theorem kTick_cos (h:CosOk k) (n:Int):CosOk (kTick k n):=by
 unfold kTick
 split
 ·exact h
 ·refine ⟨by rw [show (_:K).co=mapTo tickC k.co k.cpus from rfl,mapTo_len];exact h.1,fun c hc=>?_⟩
  have hc:c∈mapTo tickC k.co k.cpus:=hc
  rw [← h.1,mapTo_all] at hc
  obtain ⟨x,hx,rfl⟩:=List.mem_map.1 hc
  exact tickC_ok x (h.2 x hx)
end Go.Proofs.YtiocbpabbjgkhaaGreatDoor
