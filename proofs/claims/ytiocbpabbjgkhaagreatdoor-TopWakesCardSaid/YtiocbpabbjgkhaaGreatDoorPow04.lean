/- Part 4 of the proof: contracts and plain laws, each under the conditions that it names. -/
import Derived.Test.YtiocbpabbjgkhaaGreatDoorPow03
set_option maxRecDepth 100000
set_option maxHeartbeats 20000000
set_option linter.unusedVariables false
set_option linter.unusedSimpArgs false
namespace Go.Proofs.YtiocbpabbjgkhaaGreatDoor
open Go.RowKit Go.Proofs.Tryz
variable {w w' : World} {F : Nat → Prop} {p : Nat}
theorem fifo_new (w:World) (most:Nat) (h1:1≤most) (h64:most≤1024):Calls prog 115 #[.int .i64 most] w fun e w'=>(∃ p,e=.returned (.tuple #[.pointer (some ⟨p,0,none⟩),.int .i64 0])∧FifoAt w' (Plus w w' (fun _=>False)) p most [])∧Below w.heap.size w w':=by
 have hmk:=fun W=>make_ints most (by omega) W
 go_enter func115,ntmps115
 go_wp2;go_returns
 refine ⟨⟨_,rfl,w.heap.size,List.replicate most 0,0,0,⟨Blk.at _ _ (by simp),?_,by simp,h1,h64,by omega,by omega,by omega,?_,?_⟩,rfl⟩,((Below.refl _ _).alloc (Nat.le_refl _) _).alloc (by simp) _⟩
 ·have e:madeCells #[Value.int .i64 0] most=((List.replicate most 0).map (Value.int .i64)).toArray:=by
   apply Array.ext
   ·simp [madeCells]
   ·intro i h1 h2
    simp [madeCells,Nat.mod_one]
  rw [← e]
  exact (Blk.new _ _ _).alloc _
 ·exact .inr (by simp <;> omega)
 ·exact .inr (by simp <;> omega)
theorem qhas_any (w:World) (F:Nat→Prop) (p most:Nat) (l:List Int) (h:FifoAt w F p most l) (n:Int):Calls prog 232 #[.pointer (some ⟨p,0,none⟩),.int .i64 n] w fun e w'=>e=.returned (.bool (l.contains n))∧Below w.heap.size w w':=by
 have A:=Hd (qlist_any w F p most l h)
 go_enter func232,ntmps232
 go_wp2_with fail;refine A.out.mono ?_;rintro e w1 ⟨⟨v,rfl,hv⟩,hb⟩;have HV:=Hd (ints_contains w1 hv n);replace hb:=Hd hb;clear hv;go_wp2_with fail;refine HV.out.mono ?_;rintro e w2 ⟨rfl,rfl⟩;go_wp2;go_returns
 exact ⟨by simp,hb.out⟩
theorem ints_set {ring:List Int} {i:Nat} {n:Int} (hi:i < ring.length):(ring.map (Value.int .i64)).toArray.setIfInBounds i (.int .i64 n)=((ring.set i n).map (Value.int .i64)).toArray:=by
 simp [List.map_set]
theorem push_any (w:World) (F:Nat→Prop) (p most:Nat) (l:List Int) (h:FifoAt w F p most l) (n:Int):Calls prog 154 #[.pointer (some ⟨p,0,none⟩),.int .i64 n] w fun e w'=>e=.returned (.int .i64 (pushF most l n).2)∧FifoAt w' (Plus w w' F) p most (pushF most l n).1∧Ch F w w':=by
 have A:=Hd (qhas_any w F p most l h n);have HF:=Hd h;clear h
 by_cases hc:n∈l
 ·have e:pushF most l n=(l,6):=by unfold pushF;rw [if_pos hc]
  rw [e]
  have hcb:l.contains n=true:=by simpa using hc
  rw [hcb] at A;clear e hc hcb
  go_enter func154,ntmps154
  go_wp2_with fail;refine A.out.mono ?_;rintro e w1 ⟨rfl,hb⟩;replace hb:=Hd hb;go_wp2;go_returns
  exact ⟨rfl,(HF.out.below hb.out).mono Plus.sub,Ch.of_below hb.out⟩
 ·have hcb:l.contains n=false:=by simpa using hc
  rw [hcb] at A
  by_cases hm:l.length=most
  ·have e:pushF most l n=(l,5):=by unfold pushF;rw [if_neg hc,if_pos hm]
   rw [e];clear e hc hcb
   go_enter func154,ntmps154
   go_wp2_with fail;refine A.out.mono ?_;rintro e w1 ⟨rfl,hb⟩;have HF1:=Hd (HF.out.below hb);obtain ⟨r,ring,first,many,hr,hl⟩:=HF1.out
   have c0:w1.cell? ⟨p,0,none⟩=some (.slice (some ⟨r,0,none⟩) most most):=hr.head.cell 0
   have c2:w1.cell? ⟨p,2,none⟩=some (.int .i64 many):=hr.head.cell 2
   have hmm:many=most:=by rw [← hm,← hl,ringL_len]
   replace hb:=Hd hb;subst hmm;clear hr hl hm;go_wp2
   go_region
   go_wp2;go_returns
   exact ⟨rfl,((HF1.out.ch (Ch.off (belowN _ _)) (fun _ _ h=>h))).mono (fun b hb'=>.inl hb'),(Ch.of_below hb.out).drewN _⟩
  ·have e:pushF most l n=(l++[n],0):=by unfold pushF;rw [if_neg hc,if_neg hm]
   rw [e];clear e hc hcb
   go_enter func154,ntmps154
   go_wp2_with fail;refine A.out.mono ?_;rintro e w1 ⟨rfl,hb⟩;have HF1:=Hd (HF.out.below hb);obtain ⟨r,ring,first,many,hr,hl⟩:=HF1.out
   have c0:w1.cell? ⟨p,0,none⟩=some (.slice (some ⟨r,0,none⟩) most most):=hr.head.cell 0
   have c2:w1.cell? ⟨p,2,none⟩=some (.int .i64 many):=hr.head.cell 2
   have f2:w1.frozen? ⟨p,2,none⟩=false:=hr.head.frozen 2
   have hmm:many < most:=by have:=hr.n;rw [← hl,ringL_len] at hm;omega
   have hmb:((many:Int) == (most:Int))=false:=by simpa using (by omega:¬ (many:Int)=most)
   have hat:=Hd (fun k=>qat_any (w1.drewN k) p r most ring first many (hr.ch (Ch.off (belowN _ _)) (fun _ _ h=>h)) many (by have:=hr.m1;omega))
   have hfl:=hr.f
   have hpl:(first+many) % most < most:=Nat.mod_lt _ (by omega)
   have cr:w1.cell? ⟨r,(first+many) % most,none⟩=some (.int .i64 (ring.getD ((first+many) % most) 0)):=by
    rw [hr.row.cell];have:=hr.len;simp [show (first+many) % most < ring.length by omega]
   have fr:w1.frozen? ⟨r,(first+many) % most,none⟩=false:=hr.row.frozen _
   have HP:=Hd (ringL_push (ring:=ring) (first:=first) (many:=many) (by rw [hr.len];exact hfl) (by rw [hr.len];exact hmm) n)
   have HS:=Hd (ints_set (ring:=ring) (i:=(first+many) % most) (n:=n) (by rw [hr.len];exact hpl))
   have m1:=hr.m1;have HR:=Hd hr;have hne:=hr.ne;replace hb:=Hd hb;replace hl:=Hd hl;rw [HR.out.len] at HP;clear hr hm;generalize (first+many) % most=i at *;go_wp2;go_quiet (fail);go_wp2
   refine region_tailC (C:=fun w'=>∃ k,w'=(w1).drewN k) 12 ?_ ?_ ?_ ?_;(kernel_rfl);(kernel_rfl);(first | exact cls0 _ | exact clsN _ _);simp only [List.take_succ_cons,List.take_zero,List.drop_succ_cons,List.drop_zero];(repeat (go_big_quiet_step ((go_at_call 233;exact Calls.quiet_of (hat.out _)))));refine wpQuiet_nil ?_;rintro _ ⟨nq,rfl⟩
   go_wp2;go_returns
   exact ⟨rfl,⟨r,ring.set i n,first,many+1,⟨((HR.out.head.drewN _).far (p:=⟨r,i,none⟩) (Ne.symm hne) _).set 2 _,HS.out ▸ (((HR.out.row.drewN _).set i _).far (p:=⟨p,2,none⟩) hne _),by simp [HR.out.len],HR.out.m0,m1,hfl,by omega,hne,.inl HR.out.fp,.inl HR.out.fr⟩,by rw [HP.out,hl.out]⟩,(((Ch.of_below hb.out).drewN _).setCell (fun _=>HR.out.fr) _).setCell (fun _=>HR.out.fp) _⟩
theorem pop_any (w:World) (F:Nat→Prop) (p most:Nat) (l:List Int) (h:FifoAt w F p most l):Calls prog 270 #[.pointer (some ⟨p,0,none⟩)] w fun e w'=>e=.returned (.tuple #[.int .i64 (popF l).2.1,.int .i64 (popF l).2.2])∧FifoAt w' F p most (popF l).1∧Ch F w w'∧w'.heap.size=w.heap.size:=by
 have A:=Hd (qfront_any w F p most l h);have HF:=Hd h;obtain ⟨r,ring,first,many,hr,hl⟩:=h
 cases l with
 | nil =>
  clear hr hl
  go_enter func270,ntmps270
  go_wp2_with fail;refine A.out.mono ?_;rintro e w1 ⟨rfl,k,rfl⟩;unfold frontF;go_wp2;go_returns
  exact ⟨rfl,HF.out.below (belowN _ _),(Ch.refl _ _).drewN _,rfl⟩
 | cons x t =>
  have hmm:many=t.length+1:=by have:=congrArg List.length hl;rw [ringL_len] at this;simpa using this
  have hpop:=ringL_pop (ring:=ring) (first:=first) (many:=t.length) (by rw [hr.len];exact hr.f)
  rw [← hmm,hl,hr.len] at hpop
  have ht:ringL ring ((first+1) % most) t.length=t:=(List.cons.inj hpop).2.symm
  have c0:w.cell? ⟨p,0,none⟩=some (.slice (some ⟨r,0,none⟩) most most):=hr.head.cell 0
  have c1:w.cell? ⟨p,1,none⟩=some (.int .i64 first):=hr.head.cell 1
  have c2:w.cell? ⟨p,2,none⟩=some (.int .i64 many):=hr.head.cell 2
  have f1:w.frozen? ⟨p,1,none⟩=false:=hr.head.frozen 1
  have f2:w.frozen? ⟨p,2,none⟩=false:=hr.head.frozen 2
  have hat:=Hd (fun k=>qat_any (w.drewN k) p r most ring first many (hr.ch (Ch.off (belowN _ _)) (fun _ _ h=>h)) 1 (by omega))
  have HR:=Hd hr;have hn:=hr.n;have m1:=hr.m1;have m0:=hr.m0;replace ht:=Hd ht;clear hr hl hpop;subst hmm
  have hsub:((t.length+1:Nat):Int) - 1=(t.length:Int):=by omega
  have hi:(first+1) % most < most:=Nat.mod_lt _ (by omega)
  have HI:=Hd hi;clear hi
  have hfe:frontF (x::t)=(x,0):=rfl
  rw [hfe] at A;clear hfe;generalize (first+1) % most=i at *;generalize t.length=m at *
  go_enter func270,ntmps270
  go_wp2_with fail;refine A.out.mono ?_;rintro e w1 ⟨rfl,k,rfl⟩;go_wp2_with fail;refine (hat.out _).mono ?_;rintro e w1 ⟨rfl,k',hk'⟩;subst hk';go_wp2;go_returns
  refine ⟨rfl,⟨r,ring,i,m,⟨?_,((HR.out.row.drewN k).drewN k').far (p:=⟨p,1,none⟩) HR.out.ne _ |>.far (p:=⟨p,2,none⟩) HR.out.ne _,HR.out.len,m0,m1,HI.out,by omega,HR.out.ne,HR.out.fp,HR.out.fr⟩,ht.out⟩,?_,by simp⟩
  ·exact (((HR.out.head.drewN k).drewN k').set 1 _).set 2 _
  ·exact (((Ch.refl F w).drewN (k+k')).setCell (p:=⟨p,1,none⟩) (fun _=>HR.out.fp) _).setCell (p:=⟨p,2,none⟩) (fun _=>HR.out.fp) _
theorem turn_any (w:World) (F:Nat→Prop) (p most:Nat) (l:List Int) (h:FifoAt w F p most l):Calls prog 324 #[.pointer (some ⟨p,0,none⟩)] w fun e w'=>e=.returned (.int .i64 (turnF most l).2)∧FifoAt w' (Plus w w' F) p most (turnF most l).1∧Ch F w w':=by
 have A:=Hd (pop_any w F p most l h);have HF:=Hd h;clear h
 cases l with
 | nil =>
  go_enter func324,ntmps324
  go_wp2_with fail;refine A.out.mono ?_;rintro e w1 ⟨rfl,hf,hc,hs⟩
  have HX:=Hd (And.intro hf (And.intro hc hs))
  clear hf hc hs;unfold popF;go_wp2;go_returns
  exact ⟨rfl,HX.out.1.mono Plus.sub,HX.out.2.1⟩
 | cons x t =>
  go_enter func324,ntmps324
  go_wp2_with fail;refine A.out.mono ?_;rintro e w1 ⟨rfl,hf,hc,hs⟩
  have HX:=Hd (And.intro hf (And.intro hc hs))
  have B:=Hd (push_any w1 F p most t hf x);clear hf hc hs;unfold popF;go_wp2_with fail;refine B.out.mono ?_;rintro e w2 ⟨rfl,hf,hc⟩;have HY:=Hd (And.intro hf hc);clear hf hc;go_wp2;go_returns
  refine ⟨rfl,HY.out.1.mono (fun b hb=>hb.imp id (fun e=>by have:=HX.out.2.2;exact ⟨by omega,e.2⟩)),HX.out.2.1.trans HY.out.2⟩
theorem idx_from (x:Int):∀ (l:List Int) (i:Nat),(x ∉ l∧Lib.idxFrom l x i=-1)∨∃ k,k < l.length∧Lib.idxFrom l x i=((i+k:Nat):Int)∧x∈l∧l.erase x=l.eraseIdx k
 | [],i=>.inl ⟨by simp,rfl⟩
 | z::l,i=>by
  by_cases h:z=x
  ·subst h
   exact .inr ⟨0,by simp,by simp [Lib.idxFrom],by simp,by simp⟩
  ·rcases idx_from x l (i+1) with ⟨h1,h2⟩ | ⟨k,h1,h2,h3,h4⟩
   ·exact .inl ⟨by simp [h1];exact fun e=>h e.symm,by simp [Lib.idxFrom,h,h2]⟩
   ·exact .inr ⟨k+1,by simpa using h1,by simp only [Lib.idxFrom,h,if_false,h2];congr 1;omega,by simp [h3],by rw [List.erase_cons_tail (by simpa using h),h4];rfl⟩
theorem idx_spec (l:List Int) (x:Int):(x ∉ l∧Lib.idxOf l x=-1)∨∃ k,k < l.length∧Lib.idxOf l x=(k:Int)∧x∈l∧l.erase x=l.eraseIdx k:=by
 have:=idx_from x l 0
 simpa [Lib.idxOf] using this
theorem drop_any (w:World) (F:Nat→Prop) (hF:∀ b,F b→b < w.heap.size) (p most:Nat) (l:List Int) (h:FifoAt w F p most l) (n:Int):Calls prog 322 #[.pointer (some ⟨p,0,none⟩),.int .i64 n] w fun e w'=>e=.returned (.int .i64 (dropF l n).2)∧FifoAt w' (Plus w w' F) p most (dropF l n).1∧Ch F w w':=by
 have A:=Hd (qlist_any w F p most l h);have HF:=Hd h;clear h
 rcases idx_spec l n with ⟨hn,hi⟩ | ⟨k,hk,hi,hmem,her⟩
 ·have e:dropF l n=(l,4):=by unfold dropF;rw [if_neg hn]
  rw [e];replace hi:=Hd hi;clear e hn
  go_enter func322,ntmps322
  go_wp2_with fail;refine A.out.mono ?_;rintro e w1 ⟨⟨v,rfl,hv⟩,hb⟩;have B:=Hd (ints_index w1 hv n);replace hb:=Hd hb;rw [hi.out] at B;clear hv;go_wp2_with fail;refine B.out.mono ?_;rintro e w2 ⟨rfl,rfl⟩;go_wp2;go_returns
  exact ⟨rfl,(HF.out.below hb.out).mono Plus.sub,Ch.of_below hb.out⟩
 ·have e:dropF l n=(l.eraseIdx k,0):=by unfold dropF;rw [if_pos hmem,her]
  rw [e];replace hi:=Hd hi;clear e hmem her;have hfew:=HF.out.few
  obtain ⟨m,hm⟩:∃ m,l.length=m+1:=⟨l.length - 1,by omega⟩
  have HM:=Hd hm
  have h1024:m < most∧most≤1024:=by omega
  have hkm:k≤m:=by omega
  clear hm hfew hk
  go_enter func322,ntmps322
  go_wp2_with fail;refine A.out.mono ?_;rintro e w1 ⟨⟨v,rfl,hv⟩,hb⟩;have B:=Hd (ints_index w1 hv n)
  obtain ⟨g,cap,hvv,-,-,hg0,hg1,hgc,-⟩:=hv.open (by rw [HM.out];omega)
  rw [HM.out] at hvv hgc;subst hvv;have HF1:=Hd (HF.out.below hb);have HB:=Hd hb;have HG:=Hd hgc;rw [hi.out] at B;clear hv hb hgc A;go_wp2_with fail;refine B.out.mono ?_;rintro e w2 ⟨rfl,rfl⟩;obtain ⟨r,ring,first,many,hr,hl⟩:=HF1.out
  have hmm:many=m+1:=by have:=congrArg List.length hl;rw [ringL_len,HM.out] at this;omega
  subst hmm;have HR:=Hd hr
  have hrl:r < w.heap.size:=hF r hr.fr
  have hpl:p < w.heap.size:=hF p hr.fp
  have hmid:=Hd (show Mid ring first (m+1) k k l from hl ▸ Mid.start)
  have hk0:(0:Int)≤(k:Int):=by omega
  clear hr hl HF HF1 B;unfold New at hg0;go_wp2
  go_loopw [7] (fun iv wr=>∃ (i:Nat) (ring':List Int),iv=.int .i64 i∧k≤i∧i≤m∧Hid (Ring wr F p r most ring' first (m+1))∧Hid (Mid ring' first (m+1) k i l)∧Hid (Ch F w1 wr)) (fun iv _=>m - (intOf iv).toNat)
  case atStart=>exact ⟨k,ring,rfl,Nat.le_refl _,hkm,HR,hmid,Hd (Ch.refl _ _)⟩
  case round =>
   obtain ⟨i,ring',rfl,hki,him,HR',HM',HC⟩:=hrel
   have c0:wr.cell? ⟨p,0,none⟩=some (.slice (some ⟨r,0,none⟩) most most):=HR'.out.head.cell 0
   have c2:wr.cell? ⟨p,2,none⟩=some (.int .i64 ((m+1:Nat):Int)):=HR'.out.head.cell 2
   have f2:wr.frozen? ⟨p,2,none⟩=false:=HR'.out.head.frozen 2
   have hne:=HR'.out.ne
   by_cases hlt:i < m
   ·have hat:=Hd (fun j=>qat_any (wr.drewN j) p r most ring' first (m+1) (HR'.out.ch (Ch.off (belowN _ _)) (fun _ _ h=>h)) i (by omega))
    have hfl:=HR'.out.f
    have hx:(first+i) % most < most:=Nat.mod_lt _ (by omega)
    have cr:wr.cell? ⟨r,(first+i) % most,none⟩=some (.int .i64 (ring'.getD ((first+i) % most) 0)):=by
     rw [HR'.out.row.cell];have:=HR'.out.len;simp [show (first+i) % most < ring'.length by omega]
    have fr:wr.frozen? ⟨r,(first+i) % most,none⟩=false:=HR'.out.row.frozen _
    have cg:wr.cell? ⟨g,i+1,none⟩=some (.int .i64 (l.getD (i+1) 0)):=by
     rw [HC.out.cell hg1 (fun hf=>by have:=hF g hf;omega)]
     exact HG.out (i+1) (by omega)
    have HS:=Hd (ints_set (ring:=ring') (i:=(first+i) % most) (n:=l.getD (i+1) 0) (by rw [HR'.out.len];exact hx))
    have HN:=Hd (HM'.out.step (by rw [HR'.out.len];exact hfl) (by rw [HR'.out.len];omega) (by omega) hki)
    rw [HR'.out.len] at HN;generalize (first+i) % most=u at *;generalize l.getD (i+1) 0=y at *;go_wp2
    refine region_tailC (C:=fun w'=>∃ k,w'=(wr).drewN k) 12 ?_ ?_ ?_ ?_;(kernel_rfl);(kernel_rfl);(first | exact cls0 _ | exact clsN _ _);simp only [List.take_succ_cons,List.take_zero,List.drop_succ_cons,List.drop_zero];(repeat (go_big_quiet_step ((go_at_call 233;exact Calls.quiet_of (hat.out _)))));refine wpQuiet_nil ?_;rintro _ ⟨nq,rfl⟩
    go_wp2;go_roundw
    case rel=>exact ⟨i+1,ring'.set u y,by go_num,by omega,by omega,Hd ⟨(HR'.out.head.drewN _).far (p:=⟨r,u,none⟩) (Ne.symm hne) _,HS.out ▸ (HR'.out.row.drewN _).set u _,by simp [HR'.out.len],HR'.out.m0,HR'.out.m1,HR'.out.f,HR'.out.n,hne,HR'.out.fp,HR'.out.fr⟩,HN,Hd ((HC.out.drewN _).setCell (p:=⟨r,u,none⟩) (fun _=>HR'.out.fr) _)⟩
    case measure=>simp [intOf];omega
   ·have:i=m:=by omega
    subst this;go_wp2;go_returns
    exact ⟨rfl,⟨r,ring',first,i,⟨HR'.out.head.set 2 _,HR'.out.row.far (p:=⟨p,2,none⟩) hne _,HR'.out.len,HR'.out.m0,HR'.out.m1,HR'.out.f,by omega,hne,.inl HR'.out.fp,.inl HR'.out.fr⟩,HM'.out.done HM.out hki⟩,(Ch.of_below HB.out).trans (HC.out.setCell (p:=⟨p,2,none⟩) (fun _=>HR'.out.fp) _)⟩
structure Prio where
 lv:List (List Int)
 pr:List (Int × Int)
def prioCells (ptrs:Nat→Nat) (mb:Nat):Array Value:=#[.pointer (some ⟨ptrs 0,0,none⟩),.pointer (some ⟨ptrs 1,0,none⟩),.pointer (some ⟨ptrs 2,0,none⟩),.pointer (some ⟨ptrs 3,0,none⟩),.pointer (some ⟨ptrs 4,0,none⟩),.pointer (some ⟨ptrs 5,0,none⟩),.pointer (some ⟨ptrs 6,0,none⟩),.pointer (some ⟨ptrs 7,0,none⟩),.map (some mb),.int .i64 32]
structure PrioAtQ (w:World) (F:Nat→Prop) (p:Nat) (ptrs:Nat→Nat) (mb:Nat) (c:Nat→Nat) (q:Prio):Prop where
 head:Blk w p (prioCells ptrs mb) 279
 map:IMapAt w mb q.pr
 fp:Col F c 8 p
 fm:Col F c 9 mb
 lt:∀ b,F b→b < w.heap.size
 lv:∀ i,i < 8→FifoAt w (Col F c i) (ptrs i) 32 (q.lv.getD i [])
 len:q.lv.length=8
 ok:∀ x∈q.pr,0≤x.2∧x.2 < 8
def PrioAt (w:World) (F:Nat→Prop) (p:Nat) (q:Prio):Prop:=∃ ptrs mb c,PrioAtQ w F p ptrs mb c q
theorem PrioAtQ.ch {F G:Nat→Prop} {p mb:Nat} {ptrs c:Nat→Nat} {q:Prio} (h:PrioAtQ w F p ptrs mb c q) (hc:Ch G w w') (hd:∀ b,F b→¬ G b):PrioAtQ w' F p ptrs mb c q :=
 ⟨h.head.ch hc (hd _ h.fp.1),h.map.ch hc (hd _ h.fm.1),h.fp,h.fm,fun b hb=>Nat.lt_of_lt_of_le (h.lt b hb) hc.size,fun i hi=>(h.lv i hi).ch hc (fun b hb=>hd b hb.1),h.len,h.ok⟩
theorem PrioAt.ch {F G:Nat→Prop} {q:Prio} (h:PrioAt w F p q) (hc:Ch G w w') (hd:∀ b,F b→¬ G b):PrioAt w' F p q:=by
 obtain ⟨ptrs,mb,c,h⟩:=h
 exact ⟨ptrs,mb,c,h.ch hc hd⟩
theorem PrioAt.below {q:Prio} (h:PrioAt w F p q) (hb:Below w.heap.size w w'):PrioAt w' F p q:=h.ch (Ch.off hb) (fun _ _ h=>h)
theorem PrioAt.mono {F G:Nat→Prop} {q:Prio} (h:PrioAt w F p q) (hd:∀ b,F b→G b) (hG:∀ b,G b→b < w.heap.size):PrioAt w G p q:=by
 obtain ⟨ptrs,mb,c,h⟩:=h
 exact ⟨ptrs,mb,c,h.head,h.map,⟨hd _ h.fp.1,h.fp.2⟩,⟨hd _ h.fm.1,h.fm.2⟩,hG,fun i hi=>(h.lv i hi).mono (fun b hb=>⟨hd b hb.1,hb.2⟩),h.len,h.ok⟩
theorem PrioAt.ltF {q:Prio} (h:PrioAt w F p q):∀ b,F b→b < w.heap.size:=by
 obtain ⟨ptrs,mb,c,h⟩:=h
 exact h.lt
theorem PrioAtQ.level {p mb:Nat} {ptrs c:Nat→Nat} {q:Prio} (h:PrioAtQ w F p ptrs mb c q) (i:Nat) (hi:i < 8):w.cell? ⟨p,i,none⟩=some (.pointer (some ⟨ptrs i,0,none⟩)):=by
 rw [h.head.cell i]
 rcases (by omega:i=0∨i=1∨i=2∨i=3∨i=4∨i=5∨i=6∨i=7) with rfl | rfl | rfl | rfl | rfl | rfl | rfl | rfl <;> rfl
theorem PrioAtQ.turn {p mb:Nat} {ptrs c:Nat→Nat} {q:Prio} (h:PrioAtQ w F p ptrs mb c q) {i:Nat} (hi:i < 8) {l:List Int} (hl:FifoAt w' (Plus w w' (Col F c i)) (ptrs i) 32 l) (hc:Ch (Col F c i) w w'):PrioAtQ w' (Plus w w' F) p ptrs mb (recol w c i) ⟨q.lv.set i l,q.pr⟩:=by
 refine ⟨h.head.ch hc (Col.apart (by omega) _ h.fp),h.map.ch hc (Col.apart (by omega) _ h.fm),Col.old h.lt _ h.fp,Col.old h.lt _ h.fm,Plus.lt h.lt hc.size,fun j hj=>?_,by simp [h.len],h.ok⟩
 by_cases e:j=i
 ·subst e
  have:(q.lv.set j l).getD j []=l:=by rw [List.getD_eq_getElem?_getD,List.getElem?_set_self (by rw [h.len];exact hj)];rfl
  show FifoAt w' _ _ 32 ((q.lv.set j l).getD j [])
  rw [this]
  exact hl.mono (Col.new h.lt)
 ·have:(q.lv.set i l).getD j []=q.lv.getD j []:=by rw [List.getD_eq_getElem?_getD,List.getElem?_set_ne (Ne.symm e),List.getD_eq_getElem?_getD]
  show FifoAt w' _ _ 32 ((q.lv.set i l).getD j [])
  rw [this]
  exact ((h.lv j hj).ch hc (Col.apart e)).mono (Col.old h.lt)
theorem plen_any (w:World) {q:Prio} (h:PrioAt w F p q):Calls prog 98 #[.pointer (some ⟨p,0,none⟩)] w fun e w'=>e=.returned (.int .i64 (q.pr.length:Nat))∧w=w':=by
 obtain ⟨ptrs,mb,c,h⟩:=h
 have c8:w.cell? ⟨p,8,none⟩=some (.map (some mb)):=h.head.cell 8
 have hl:=fun ty=>h.map.mlen underlying95 ty
 clear h
 go_enter func98,ntmps98
 go_wp2;go_returns
 exact ⟨rfl,rfl⟩
theorem prio_any (w:World) {q:Prio} (h:PrioAt w F p q) (id:Int):Calls prog 289 #[.pointer (some ⟨p,0,none⟩),.int .i64 id] w fun e w'=>e=.returned (.tuple #[.int .i64 ((mget q.pr id).getD 0),.bool (mget q.pr id).isSome])∧w=w':=by
 obtain ⟨ptrs,mb,c,h⟩:=h
 have c8:w.cell? ⟨p,8,none⟩=some (.map (some mb)):=h.head.cell 8
 have hl:=h.map.look underlying95 underlying3 (zero3 w) id
 clear h
 go_enter func289,ntmps289
 go_wp2;go_returns
 exact ⟨rfl,rfl⟩
theorem PrioAtQ.put {p mb:Nat} {ptrs c:Nat→Nat} {q:Prio} (h:PrioAtQ w F p ptrs mb c q) (id v:Int) (hv:0≤v∧v < 8):PrioAtQ (mapPut w mb id (.int .i64 v)) F p ptrs mb c ⟨q.lv,mput q.pr id v⟩:=by
 have hne:∀ i b,i≠9→Col F c i b→¬ b=mb:=fun i b hi hb e=>by subst e;exact hi (hb.2.symm.trans h.fm.2)
 exact ⟨h.head.ch (mapPut_ch _ _ _ _) (hne 8 _ (by omega) h.fp),h.map.put _ _,h.fp,h.fm,fun b hb=>by rw [mapPut_size];exact h.lt b hb,fun i hi=>(h.lv i hi).ch (mapPut_ch _ _ _ _) (fun b hb=>hne i b (by omega) hb),h.len,fun x hx=>(mem_mput hx).elim (fun e=>by rw [e];exact hv) (h.ok x)⟩
theorem PrioAtQ.del {p mb:Nat} {ptrs c:Nat→Nat} {q:Prio} (h:PrioAtQ w F p ptrs mb c q) (id:Int):PrioAtQ (mapDel w mb id) F p ptrs mb c ⟨q.lv,mdel q.pr id⟩:=by
 have hne:∀ i b,i≠9→Col F c i b→¬ b=mb:=fun i b hi hb e=>by subst e;exact hi (hb.2.symm.trans h.fm.2)
 exact ⟨h.head.ch (mapDel_ch _ _ _) (hne 8 _ (by omega) h.fp),h.map.del _,h.fp,h.fm,fun b hb=>by rw [mapDel_size];exact h.lt b hb,fun i hi=>(h.lv i hi).ch (mapDel_ch _ _ _) (fun b hb=>hne i b (by omega) hb),h.len,fun x hx=>h.ok x (mem_mdel hx)⟩
def prioPush (q:Prio) (prio id:Int):Prio × Int :=
 if prio < 0∨8≤prio then (q,2) else if (mget q.pr id).isSome then (q,6) else if 32≤q.pr.length then (q,5) else
 (⟨q.lv.set prio.toNat (pushF 32 (q.lv.getD prio.toNat []) id).1,mput q.pr id prio⟩,(pushF 32 (q.lv.getD prio.toNat []) id).2)
theorem ppush_any (w:World) {q:Prio} (h:PrioAt w F p q) (prio id:Int):Calls prog 286 #[.pointer (some ⟨p,0,none⟩),.int .i64 prio,.int .i64 id] w fun e w'=>e=.returned (.int .i64 (prioPush q prio id).2)∧PrioAt w' (Plus w w' F) p (prioPush q prio id).1∧Ch F w w':=by
 have HP:=Hd h;obtain ⟨ptrs,mb,c,h⟩:=h
 have c8:w.cell? ⟨p,8,none⟩=some (.map (some mb)):=h.head.cell 8
 have c9:w.cell? ⟨p,9,none⟩=some (.int .i64 32):=h.head.cell 9
 have hl:=h.map.look underlying95 underlying3 (zero3 w) id
 have hn:=fun ty=>IMapAt.mlen (P:=prog) (w:=w.drew) h.map underlying95 ty
 by_cases hp:prio < 0∨(0≤prio∧8≤prio)
 ·have e:prioPush q prio id=(q,2):=by unfold prioPush;rw [if_pos (by omega)]
  rw [e];clear e h hn
  rcases hp with hp | ⟨hp0,hp⟩
  all_goals
   go_enter func286,ntmps286
   go_wp2;go_returns
   exact ⟨rfl,by rw [Plus.self];exact HP.out,Ch.refl _ _⟩
 ·obtain ⟨i,rfl⟩:∃ i:Nat,prio=i:=⟨prio.toNat,by omega⟩
  have hi8:i < 8:=by omega
  by_cases hg:(mget q.pr id).isSome=true
  ·have e:prioPush q i id=(q,6):=by unfold prioPush;rw [if_neg (by omega),if_pos hg]
   rw [e];rw [hg] at hl;clear e h hn hg
   go_enter func286,ntmps286
   go_wp2;go_returns
   exact ⟨rfl,by rw [Plus.self];exact HP.out,Ch.refl _ _⟩
  ·have hg':(mget q.pr id).isSome=false:=by simpa using hg
   rw [hg'] at hl
   by_cases h32:32≤q.pr.length
   ·have e:prioPush q i id=(q,5):=by unfold prioPush;rw [if_neg (by omega),if_neg hg,if_pos h32]
    rw [e];clear e h hg hg';generalize q.pr.length=n at *
    go_enter func286,ntmps286
    go_wp2
    go_region
    go_wp2;go_returns
    exact ⟨rfl,by rw [Plus.drew];exact HP.out.below (belowN _ 1),(Ch.refl _ _).drew⟩
   ·have e:prioPush q i id=(⟨q.lv.set i (pushF 32 (q.lv.getD i []) id).1,mput q.pr id i⟩,(pushF 32 (q.lv.getD i []) id).2):=by unfold prioPush;rw [if_neg (by omega),if_neg hg,if_neg h32];rfl
    rw [e]
    have cl:=h.level i hi8
    have hput:=run_put (P:=prog) (w:=w.drew) h.map underlying95 underlying3 id (.int .i64 i)
    have H:=Hd h;clear e h hg hg';generalize q.pr.length=n at *
    go_enter func286,ntmps286
    go_wp2
    go_region
    go_wp2_with fail
    have hX:=(H.out.ch ((Ch.refl (fun _=>False) w).drew) (fun _ _ h=>h)).put id i ⟨by omega,by omega⟩
    have HX:=Hd hX
    refine (push_any _ _ _ _ _ (hX.lv i hi8) id).mono ?_
    rintro e w1 ⟨rfl,hf,hc⟩;have HR:=Hd (hX.turn hi8 hf hc);rw [Plus.of_size (show (mapPut w.drew mb id (.int .i64 i)).heap.size=w.heap.size by simp)] at HR
    have HC:=Hd ((((Ch.refl F w).drew.mapPut (fun _=>H.out.fm.1) id (.int .i64 i))).trans (Col.ch hc))
    clear hX hf hc;go_wp2;go_returns
    exact ⟨rfl,⟨_,_,_,HR.out⟩,HC.out⟩
def prioDrop (q:Prio) (id:Int):Prio × Int :=
 match mget q.pr id with
 | none=>(q,4)
 | some v=>(⟨q.lv.set v.toNat (dropF (q.lv.getD v.toNat []) id).1,mdel q.pr id⟩,(dropF (q.lv.getD v.toNat []) id).2)
theorem pdrop_any (w:World) {q:Prio} (h:PrioAt w F p q) (id:Int):Calls prog 287 #[.pointer (some ⟨p,0,none⟩),.int .i64 id] w fun e w'=>e=.returned (.int .i64 (prioDrop q id).2)∧PrioAt w' (Plus w w' F) p (prioDrop q id).1∧Ch F w w':=by
 have HP:=Hd h;obtain ⟨ptrs,mb,c,h⟩:=h
 have c8:w.cell? ⟨p,8,none⟩=some (.map (some mb)):=h.head.cell 8
 have hl:=h.map.look underlying95 underlying3 (zero3 w) id
 cases hg:mget q.pr id with
 | none =>
  have e:prioDrop q id=(q,4):=by unfold prioDrop;rw [hg]
  rw [e];rw [hg] at hl;clear e h hg
  go_enter func287,ntmps287
  go_wp2;go_returns
  exact ⟨rfl,by rw [Plus.self];exact HP.out,Ch.refl _ _⟩
 | some v =>
  have hv:=h.ok _ (mget_mem hg)
  obtain ⟨i,rfl⟩:∃ i:Nat,v=i:=⟨v.toNat,by omega⟩
  have hi8:i < 8:=by omega
  have e:prioDrop q id=(⟨q.lv.set i (dropF (q.lv.getD i []) id).1,mdel q.pr id⟩,(dropF (q.lv.getD i []) id).2):=by unfold prioDrop;rw [hg];rfl
  rw [e];rw [hg] at hl
  have cl:=h.level i hi8
  have hdel:=fun ty=>run_del (P:=prog) (w:=w) h.map underlying95 underlying3 id ty 3
  have H:=Hd h;clear e h hg hv
  go_enter func287,ntmps287
  go_wp2_with fail
  have hX:=H.out.del id
  refine (drop_any _ _ (Col.lt hX.lt) _ _ _ (hX.lv i hi8) id).mono ?_
  rintro e w1 ⟨rfl,hf,hc⟩;have HR:=Hd (hX.turn hi8 hf hc);rw [Plus.of_size (show (mapDel w mb id).heap.size=w.heap.size by simp)] at HR
  have HC:=Hd ((((Ch.refl F w).mapDel (fun _=>H.out.fm.1) id)).trans (Col.ch hc))
  clear hX hf hc;go_wp2;go_returns
  exact ⟨rfl,⟨_,_,_,HR.out⟩,HC.out⟩
def prioBack (q:Prio) (id:Int):Prio × Int :=
 if (prioDrop q id).2≠0 then prioDrop q id else prioPush (prioDrop q id).1 ((mget q.pr id).getD 0) id
theorem pback_any (w:World) {q:Prio} (h:PrioAt w F p q) (id:Int):Calls prog 224 #[.pointer (some ⟨p,0,none⟩),.int .i64 id] w fun e w'=>e=.returned (.int .i64 (prioBack q id).2)∧PrioAt w' (Plus w w' F) p (prioBack q id).1∧Ch F w w':=by
 have A:=Hd (prio_any w h id);have B:=Hd (pdrop_any w h id)
 have HL:=Hd (show prioBack q id=if (prioDrop q id).2≠0 then prioDrop q id else prioPush (prioDrop q id).1 ((mget q.pr id).getD 0) id from rfl)
 rw [HL.out];clear h HL;generalize (mget q.pr id).getD 0=pr at *;generalize (mget q.pr id).isSome=ok at *;generalize prioDrop q id=r at *;obtain ⟨r1,r2⟩:=r
 by_cases hr:r2=0
 ·subst hr
  go_enter func224,ntmps224
  go_wp2_with fail;refine A.out.mono ?_;rintro e w1 ⟨rfl,rfl⟩;go_wp2_with fail;refine B.out.mono ?_;rintro e w1 ⟨rfl,hp,hc⟩;have HC:=Hd hc;have P:=Hd (ppush_any w1 hp pr id);clear hp hc;go_wp2_with fail;refine P.out.mono ?_;rintro e w2 ⟨rfl,hp,hc⟩;have H2:=Hd hp;have HC2:=Hd hc;clear hp hc;go_wp2;go_returns
  exact ⟨by simp,by have:=H2.out;rw [Plus.plus HC.out.size HC2.out.size] at this;simpa using this,HC.out.plus HC2.out⟩
 ·have hb:(r2 != 0)=true:=by simpa using hr
  rw [if_pos hr];clear hr
  go_enter func224,ntmps224
  go_wp2_with fail;refine A.out.mono ?_;rintro e w1 ⟨rfl,rfl⟩;go_wp2_with fail;refine B.out.mono ?_;rintro e w1 ⟨rfl,hp,hc⟩;have H2:=Hd hp;have HC:=Hd hc;clear hp hc;go_wp2;go_returns
  exact ⟨rfl,H2.out,HC.out⟩
section
open Go.MapKept
structure Thread where
 prio:Int
 mask:Nat
 cpu:Int
 forced:Bool
 sleeps:Bool
 timer:Int
structure Threads where
 ids:Slot
 cpus:Int
 all:List (Int × Thread)
def thCells (t:Thread):Array Value:=#[.int .i64 t.prio,.int .u64 t.mask,.int .i64 t.cpu,.bool t.forced,.bool t.sleeps,.int .i64 t.timer]
def encP (ptr:Int→Nat) {α:Type} (m:List (Int × α)):List (Int × Value):=m.map fun x=>(x.1,.pointer (some ⟨ptr x.1,0,none⟩))
theorem encP_get {α:Type} (ptr:Int→Nat) (m:List (Int × α)) (k:Int):mget (encP ptr m) k=(mget m k).map fun _=>.pointer (some ⟨ptr k,0,none⟩):=by
 induction m with
 | nil=>rfl
 | cons x t ih =>
  simp only [encP,List.map_cons,mget] at *
  split
  ·rename_i h;simp [h]
  ·exact ih
theorem encP_same {α:Type} (ptr:Int→Nat) {m:List (Int × α)} {k:Int} (v:α) (h:(mget m k).isSome=true):encP ptr (mput m k v)=encP ptr m:=by
 induction m with
 | nil=>cases h
 | cons x t ih =>
  simp only [encP,mput,mget] at *
  split
  ·rename_i e;simp [e]
  ·rename_i e
   simp only [e,if_false] at h
   rw [List.map_cons,ih h];rfl
theorem encP_del {α:Type} (ptr:Int→Nat) (m:List (Int × α)) (k:Int):mdel (encP ptr m) k=encP ptr (mdel m k):=by
 induction m with
 | nil=>rfl
 | cons x t ih =>
  simp only [encP,List.map_cons,mdel] at *
  split
  ·rfl
  ·rw [ih];rfl
theorem MapAt.nodup {b:Nat} {m:List (Int × Value)} (h:MapAt w b m):(m.map (·.1)).Nodup:=by
 obtain ⟨es,c,_,hs,he⟩:=h;have h1:=hs.2.2
 have h2:es.toList.map (·.key)=(m.map (·.1)).map (Value.int .i64):=by
  have:=congrArg (List.map (·.1)) he
  simpa [Function.comp_def] using this
 rw [h2,List.Nodup,List.pairwise_map] at h1
 exact h1.imp (fun h e=>h (congrArg _ e))
theorem encP_keys {α:Type} (ptr:Int→Nat) (m:List (Int × α)):(encP ptr m).map (·.1)=m.map (·.1):=by simp [encP]
theorem mem_mput' {α:Type} {m:List (Int × α)} (hn:(m.map (·.1)).Nodup) {k:Int} {v:α} {x:Int × α} (h:x∈mput m k v):x=(k,v)∨(x∈m∧x.1≠k):=by
 induction m with
 | nil=>left;simpa [mput] using h
 | cons y t ih =>
  simp only [List.map_cons,List.nodup_cons] at hn
  simp only [mput] at h
  split at h
  ·rename_i e
   rcases List.mem_cons.1 h with h | h
   ·exact .inl h
   ·refine .inr ⟨List.mem_cons_of_mem _ h,fun e2=>hn.1 ?_⟩
    rw [e,← e2]
    exact List.mem_map.2 ⟨x,h,rfl⟩
  ·rename_i e
   rcases List.mem_cons.1 h with h | h
   ·exact .inr ⟨h ▸ List.mem_cons_self,h ▸ e⟩
   ·exact (ih hn.2 h).imp id (fun q=>⟨List.mem_cons_of_mem _ q.1,q.2⟩)
structure ThreadsAtQ (w:World) (F:Nat→Prop) (p sp mb:Nat) (ptr:Int→Nat) (c:Nat→Nat) (t:Threads):Prop where
 head:Blk w p #[.pointer (some ⟨sp,0,none⟩),.int .i64 t.cpus,.map (some mb)] 211
 ids:SlotAt w (Col F c 0) sp 32 t.ids
 map:MapAt w mb (encP ptr t.all)
 fp:Col F c 1 p
 fm:Col F c 2 mb
 lt:∀ b,F b→b < w.heap.size
 blk:∀ x∈t.all,Blk w (ptr x.1) (thCells x.2) 79∧Col F c (10+x.1.toNat) (ptr x.1)
 keys:∀ x∈t.all,0≤x.1∧x.2.mask < top64
def ThreadsAt (w:World) (F:Nat→Prop) (p:Nat) (t:Threads):Prop:=∃ sp mb ptr c,ThreadsAtQ w F p sp mb ptr c t
theorem ThreadsAtQ.ch {F G:Nat→Prop} {p sp mb:Nat} {ptr:Int→Nat} {c:Nat→Nat} {t:Threads} (h:ThreadsAtQ w F p sp mb ptr c t) (hc:Ch G w w') (hd:∀ b,F b→¬ G b):ThreadsAtQ w' F p sp mb ptr c t :=
 ⟨h.head.ch hc (hd _ h.fp.1),h.ids.ch hc (fun b hb=>hd b hb.1),h.map.ch hc (hd _ h.fm.1),h.fp,h.fm,fun b hb=>Nat.lt_of_lt_of_le (h.lt b hb) hc.size,fun x hx=>⟨(h.blk x hx).1.ch hc (hd _ (h.blk x hx).2.1),(h.blk x hx).2⟩,h.keys⟩
theorem ThreadsAt.ch {F G:Nat→Prop} {t:Threads} (h:ThreadsAt w F p t) (hc:Ch G w w') (hd:∀ b,F b→¬ G b):ThreadsAt w' F p t:=by
 obtain ⟨sp,mb,ptr,c,h⟩:=h
 exact ⟨sp,mb,ptr,c,h.ch hc hd⟩
theorem ThreadsAt.below {t:Threads} (h:ThreadsAt w F p t) (hb:Below w.heap.size w w'):ThreadsAt w' F p t:=h.ch (Ch.off hb) (fun _ _ h=>h)
theorem ThreadsAt.mono {F G:Nat→Prop} {t:Threads} (h:ThreadsAt w F p t) (hd:∀ b,F b→G b) (hG:∀ b,G b→b < w.heap.size):ThreadsAt w G p t:=by
 obtain ⟨sp,mb,ptr,c,h⟩:=h
 exact ⟨sp,mb,ptr,c,h.head,h.ids.mono (fun b hb=>⟨hd b hb.1,hb.2⟩),h.map,⟨hd _ h.fp.1,h.fp.2⟩,⟨hd _ h.fm.1,h.fm.2⟩,hG,fun x hx=>⟨(h.blk x hx).1,hd _ (h.blk x hx).2.1,(h.blk x hx).2.2⟩,h.keys⟩
theorem ThreadsAtQ.at {p sp mb:Nat} {ptr:Int→Nat} {c:Nat→Nat} {t:Threads} (h:ThreadsAtQ w F p sp mb ptr c t):ThreadsAt w F p t:=⟨sp,mb,ptr,c,h⟩
theorem ThreadsAtQ.set {p sp mb:Nat} {ptr:Int→Nat} {c:Nat→Nat} {t:Threads} (h:ThreadsAtQ w F p sp mb ptr c t) {id:Int} {x y:Thread} (hg:mget t.all id=some x) (hy:y.mask < top64) (hb:Blk w' (ptr id) (thCells y) 79) (hc:Ch (fun b=>b=ptr id) w w'):ThreadsAtQ w' F p sp mb ptr c ⟨t.ids,t.cpus,mput t.all id y⟩:=by
 have hx:=h.blk _ (mget_mem hg)
 have hk:=h.keys _ (mget_mem hg)
 dsimp only at hx hk
 have ne:∀ i b,i≠10+id.toNat→Col F c i b→¬ b=ptr id:=fun i b hi hb e=>by subst e;exact hi (hb.2.symm.trans hx.2.2)
 have hn:(t.all.map (·.1)).Nodup:=by have:=h.map.nodup;rwa [encP_keys] at this
 refine ⟨h.head.ch hc (ne 1 _ (by omega) h.fp),h.ids.ch hc (fun b hb=>ne 0 b (by omega) hb),?_,h.fp,h.fm,fun b hb=>Nat.lt_of_lt_of_le (h.lt b hb) hc.size,?_,?_⟩
 ·rw [encP_same ptr y (by rw [hg];rfl)]
  exact h.map.ch hc (ne 2 _ (by omega) h.fm)
 ·intro z hz
  rcases mem_mput' hn hz with rfl | ⟨hz,hne⟩
  ·exact ⟨hb,hx.2⟩
  ·have hzk:=h.keys _ hz
   have hzb:=h.blk _ hz
   exact ⟨hzb.1.ch hc (ne _ _ (by omega) hzb.2),hzb.2⟩
 ·intro z hz
  rcases mem_mput' hn hz with rfl | ⟨hz,hne⟩
  ·exact ⟨hk.1,hy⟩
  ·exact h.keys _ hz
theorem zero191 (w:World):(zeroValue 191).run prog w=.ok (.pointer none) w:=by kernel_rfl
theorem run_lookP {P:Program} {b:Nat} {ptr:Int→Nat} {α:Type} {m:List (Int × α)} (h:MapAt w b (encP ptr m)) {T K E:TypeId} (hT:P.underlying T=some (.map K E)) (hK:P.underlying K=some (.int .i64)) (hz:(zeroValue E).run P w=.ok (.pointer none) w) (k:Int) :
  (Instr.lookup T (.map (some b)) (.int .i64 k) true).run P w=.ok (.tuple #[if (mget m k).isSome then .pointer (some ⟨ptr k,0,none⟩) else .pointer none,.bool (mget m k).isSome]) w:=by
 have:=run_look (P:=P) h hT hK _ hz k true
 rw [if_pos rfl,encP_get] at this;rw [this]
 cases mget m k <;> rfl
theorem find_no (w:World) {t:Threads} (h:ThreadsAt w F p t) (id:Int) (hg:mget t.all id=none):Calls prog 102 #[.pointer (some ⟨p,0,none⟩),.int .i64 id] w fun e w'=>e=.returned (.tuple #[.pointer none,.int .i64 4])∧w=w':=by
 obtain ⟨sp,mb,ptr,c,h⟩:=h
 have c2:w.cell? ⟨p,2,none⟩=some (.map (some mb)):=h.head.cell 2
 have hl:=run_lookP (P:=prog) h.map underlying209 underlying3 (zero191 w) id
 rw [hg] at hl;clear h hg
 go_enter func102,ntmps102
 go_wp2;go_returns
 exact ⟨rfl,rfl⟩
theorem find_yes (w:World) {p sp mb:Nat} {ptr:Int→Nat} {c:Nat→Nat} {t:Threads} (h:ThreadsAtQ w F p sp mb ptr c t) (id:Int) {x:Thread} (hg:mget t.all id=some x):Calls prog 102 #[.pointer (some ⟨p,0,none⟩),.int .i64 id] w fun e w'=>e=.returned (.tuple #[.pointer (some ⟨ptr id,0,none⟩),.int .i64 0])∧w=w':=by
 have c2:w.cell? ⟨p,2,none⟩=some (.map (some mb)):=h.head.cell 2
 have hl:=run_lookP (P:=prog) h.map underlying209 underlying3 (zero191 w) id
 rw [hg] at hl;clear h hg
 go_enter func102,ntmps102
 go_wp2;go_returns
 exact ⟨rfl,rfl⟩
def noThread:Thread:=⟨0,0,0,false,false,0⟩
def thGet (t:Threads) (id:Int):Thread × Int:=match mget t.all id with | none=>(noThread,4) | some x=>(x,0)
theorem tget_any (w:World) {t:Threads} (h:ThreadsAt w F p t) (id:Int):Calls prog 38 #[.pointer (some ⟨p,0,none⟩),.int .i64 id] w fun e w'=>e=.returned (.tuple #[.agg (thCells (thGet t id).1),.int .i64 (thGet t id).2])∧Below w.heap.size w w':=by
 cases hg:mget t.all id with
 | none =>
  have A:=Hd (fun o=>find_no (w.alloc o) (h.below ((Below.refl _ _).alloc (Nat.le_refl _) o)) id hg)
  have e:thGet t id=(noThread,4):=by unfold thGet;rw [hg]
  rw [e];clear e h hg
  go_enter func38,ntmps38
  go_wp2_with fail;refine (A.out _).mono ?_;rintro e w1 ⟨rfl,hw⟩;subst hw;go_wp2
  refine bodyPost_ret (v:=.tuple #[.agg (thCells noThread),.int .i64 4]) (by simp [results,results38,go_sem,thCells,noThread]) rfl ⟨rfl,?_⟩
  exact (Ch.isBelow (by (repeat (first | with_reducible exact Ch.refl _ _ | (with_reducible refine Ch.alloc ?_ _) | (with_reducible refine Ch.drew ?_) | (with_reducible refine Ch.drewN ?_ _) | (refine Ch.setCell ?_ (fun h=>absurd h (by simp)) _)))))
 | some x =>
  obtain ⟨sp,mb,ptr,c,h⟩:=h
  have hb:=(h.blk _ (mget_mem hg)).1
  dsimp only at hb;have hlt:=hb.lt
  have A:=Hd (fun o=>find_yes (w.alloc o) (h.ch ((Ch.refl (fun _=>False) w).alloc o) (fun _ _ h=>h)) id hg)
  have e:thGet t id=(x,0):=by unfold thGet;rw [hg]
  rw [e];have k0:=hb.cell 0;have k1:=hb.cell 1;have k2:=hb.cell 2;have k3:=hb.cell 3;have k4:=hb.cell 4;have k5:=hb.cell 5
  simp [thCells] at k0 k1 k2 k3 k4 k5
  clear e h hg hb;generalize ptr id=b at *
  go_enter func38,ntmps38
  go_wp2_with fail;refine (A.out _).mono ?_;rintro e w1 ⟨rfl,hw⟩;subst hw;go_wp2
  refine bodyPost_ret (v:=.tuple #[.agg (thCells x),.int .i64 0]) (by simp [results,results38,go_sem,thCells]) rfl ⟨rfl,?_⟩
  exact (Ch.isBelow (by (repeat (first | with_reducible exact Ch.refl _ _ | (with_reducible refine Ch.alloc ?_ _) | (with_reducible refine Ch.drew ?_) | (with_reducible refine Ch.drewN ?_ _) | (refine Ch.setCell ?_ (fun h=>absurd h (by simp)) _)))))
end
def rightM (cpus:Int) (m:Nat):Bool:=decide (m≠0) && withinF m (uptoF cpus)
theorem tright_any (w:World) {t:Threads} (h:ThreadsAt w F p t) (m:Nat) (hm:m < top64):Calls prog 214 #[.pointer (some ⟨p,0,none⟩),.int .u64 m] w fun e w'=>e=.returned (.bool (rightM t.cpus m))∧w=w':=by
 obtain ⟨sp,mb,ptr,c,h⟩:=h
 have c1:w.cell? ⟨p,1,none⟩=some (.int .i64 t.cpus):=h.head.cell 1
 have A:=Hd (upto_any t.cpus w)
 have B:=Hd (within_any m (uptoF t.cpus) hm (uptoF_lt _) w)
 unfold rightM;clear h
 by_cases h0:m=0
 ·subst h0
  go_enter func214,ntmps214
  go_wp2;go_returns
  exact ⟨rfl,rfl⟩
 ·have hb:((m:Int) != 0)=true:=by simpa using h0
  rw [decide_eq_true h0,Bool.true_and];clear h0;generalize uptoF t.cpus=u at *;generalize withinF m u=r at *
  go_enter func214,ntmps214
  go_wp2_with fail;refine A.out.mono ?_;rintro e w1 ⟨rfl,rfl⟩;go_wp2_with fail;refine B.out.mono ?_;rintro e w1 ⟨rfl,rfl⟩;go_wp2;go_returns
  exact ⟨rfl,rfl⟩
def thAim (t:Threads) (id:Int) (m:Nat):Threads × Int :=
 match mget t.all id with
 | none=>(t,4)
 | some x=>if rightM t.cpus m then (⟨t.ids,t.cpus,mput t.all id ⟨x.prio,m,x.cpu,x.forced,x.sleeps,x.timer⟩⟩,0) else (t,2)
theorem taim_any (w:World) {t:Threads} (h:ThreadsAt w F p t) (id:Int) (m:Nat) (hm:m < top64):Calls prog 132 #[.pointer (some ⟨p,0,none⟩),.int .i64 id,.int .u64 m] w fun e w'=>e=.returned (.int .i64 (thAim t id m).2)∧ThreadsAt w' F p (thAim t id m).1∧Ch F w w'∧w'.heap.size=w.heap.size:=by
 have HT:=Hd h
 cases hg:mget t.all id with
 | none =>
  have A:=Hd (find_no w h id hg)
  have e:thAim t id m=(t,4):=by unfold thAim;rw [hg]
  rw [e];clear e h hg
  go_enter func132,ntmps132
  go_wp2_with fail;refine A.out.mono ?_;rintro e w1 ⟨rfl,rfl⟩;go_wp2;go_returns
  exact ⟨rfl,HT.out,Ch.refl _ _,rfl⟩
 | some x =>
  have B:=Hd (tright_any w h m hm);obtain ⟨sp,mb,ptr,c,h⟩:=h;have A:=Hd (find_yes w h id hg)
  have hb:=h.blk _ (mget_mem hg)
  dsimp only at hb
  cases hr:rightM t.cpus m with
  | false =>
   have e:thAim t id m=(t,2):=by unfold thAim;rw [hg];simp [hr]
   rw [e];rw [hr] at B;clear e h hg hb hr
   go_enter func132,ntmps132
   go_wp2_with fail;refine A.out.mono ?_;rintro e w1 ⟨rfl,rfl⟩;go_wp2_with fail;refine B.out.mono ?_;rintro e w1 ⟨rfl,rfl⟩;go_wp2;go_returns
   exact ⟨rfl,HT.out,Ch.refl _ _,rfl⟩
  | true =>
   have e:thAim t id m=(⟨t.ids,t.cpus,mput t.all id ⟨x.prio,m,x.cpu,x.forced,x.sleeps,x.timer⟩⟩,0):=by unfold thAim;rw [hg];simp [hr]
   rw [e];rw [hr] at B
   have k1:w.cell? ⟨ptr id,1,none⟩=some (.int .u64 x.mask):=hb.1.cell 1
   have f1:w.frozen? ⟨ptr id,1,none⟩=false:=hb.1.frozen 1
   have H:=Hd h;have HB:=Hd hb;have HG:=Hd hg;clear e h hg hb hr
   go_enter func132,ntmps132
   go_wp2_with fail;refine A.out.mono ?_;rintro e w1 ⟨rfl,rfl⟩;go_wp2_with fail;refine B.out.mono ?_;rintro e w1 ⟨rfl,rfl⟩;go_wp2;go_returns
   exact ⟨rfl,(H.out.set (y:=⟨x.prio,m,x.cpu,x.forced,x.sleeps,x.timer⟩) HG.out hm (HB.out.1.set 1 _) ((Ch.refl (fun k=>k=ptr id) w).put 1 _)).at,(Ch.refl _ _).setCell (p:=⟨ptr id,1,none⟩) (fun _=>HB.out.2.1) _,by simp⟩
def thPlace (t:Threads) (id cpu:Int) (forced:Bool):Threads × Int :=
 match mget t.all id with
 | none=>(t,4)
 | some x=>if cpu < 0∨t.cpus≤cpu then (t,3) else (⟨t.ids,t.cpus,mput t.all id ⟨x.prio,x.mask,cpu,forced,x.sleeps,x.timer⟩⟩,0)
theorem tplace_any (w:World) {t:Threads} (h:ThreadsAt w F p t) (id cpu:Int) (fo:Bool):Calls prog 216 #[.pointer (some ⟨p,0,none⟩),.int .i64 id,.int .i64 cpu,.bool fo] w fun e w'=>e=.returned (.int .i64 (thPlace t id cpu fo).2)∧ThreadsAt w' F p (thPlace t id cpu fo).1∧Ch F w w'∧w'.heap.size=w.heap.size:=by
 have HT:=Hd h
 cases hg:mget t.all id with
 | none =>
  have A:=Hd (find_no w h id hg)
  have e:thPlace t id cpu fo=(t,4):=by unfold thPlace;rw [hg]
  rw [e];clear e h hg
  go_enter func216,ntmps216
  go_wp2_with fail;refine A.out.mono ?_;rintro e w1 ⟨rfl,rfl⟩;go_wp2;go_returns
  exact ⟨rfl,HT.out,Ch.refl _ _,rfl⟩
 | some x =>
  obtain ⟨sp,mb,ptr,c,h⟩:=h;have A:=Hd (find_yes w h id hg)
  have hb:=h.blk _ (mget_mem hg)
  have c1:w.cell? ⟨p,1,none⟩=some (.int .i64 t.cpus):=h.head.cell 1
  dsimp only at hb
  rcases (by omega:cpu < 0∨(0≤cpu∧t.cpus≤cpu)∨(0≤cpu∧cpu < t.cpus)) with hr | ⟨hr0,hr⟩ | ⟨hr0,hr⟩
  ·have e:thPlace t id cpu fo=(t,3):=by unfold thPlace;rw [hg];simp only;rw [if_pos (by omega)]
   rw [e];clear e h hg hb
   go_enter func216,ntmps216
   go_wp2_with fail;refine A.out.mono ?_;rintro e w1 ⟨rfl,rfl⟩;go_wp2;go_returns
   exact ⟨rfl,HT.out,Ch.refl _ _,rfl⟩
  ·have e:thPlace t id cpu fo=(t,3):=by unfold thPlace;rw [hg];simp only;rw [if_pos (by omega)]
   rw [e];clear e h hg hb
   go_enter func216,ntmps216
   go_wp2_with fail;refine A.out.mono ?_;rintro e w1 ⟨rfl,rfl⟩;go_wp2;go_returns
   exact ⟨rfl,HT.out,Ch.refl _ _,rfl⟩
  ·have e:thPlace t id cpu fo=(⟨t.ids,t.cpus,mput t.all id ⟨x.prio,x.mask,cpu,fo,x.sleeps,x.timer⟩⟩,0):=by unfold thPlace;rw [hg];simp only;rw [if_neg (by omega)]
   rw [e]
   have k2:w.cell? ⟨ptr id,2,none⟩=some (.int .i64 x.cpu):=hb.1.cell 2
   have f2:w.frozen? ⟨ptr id,2,none⟩=false:=hb.1.frozen 2
   have k3:w.cell? ⟨ptr id,3,none⟩=some (.bool x.forced):=hb.1.cell 3
   have f3:w.frozen? ⟨ptr id,3,none⟩=false:=hb.1.frozen 3
   have H:=Hd h;have HB:=Hd hb;have HG:=Hd hg
   have hm:=Hd (h.keys _ (mget_mem hg)).2
   clear e h hg hb
   go_enter func216,ntmps216
   go_wp2_with fail;refine A.out.mono ?_;rintro e w1 ⟨rfl,rfl⟩;go_wp2;go_returns
   exact ⟨rfl,(H.out.set (y:=⟨x.prio,x.mask,cpu,fo,x.sleeps,x.timer⟩) HG.out hm.out ((HB.out.1.set 2 _).set 3 _) (((Ch.refl (fun k=>k=ptr id) w).put 2 _).put 3 _)).at,((Ch.refl _ _).setCell (p:=⟨ptr id,2,none⟩) (fun _=>HB.out.2.1) _).setCell (p:=⟨ptr id,3,none⟩) (fun _=>HB.out.2.1) _,by simp⟩
def thSleep (t:Threads) (id timer:Int):Threads × Int :=
 match mget t.all id with
 | none=>(t,4)
 | some x=>if x.sleeps then (t,6) else (⟨t.ids,t.cpus,mput t.all id ⟨x.prio,x.mask,x.cpu,x.forced,true,timer⟩⟩,0)
theorem tsleep_any (w:World) {t:Threads} (h:ThreadsAt w F p t) (id timer:Int):Calls prog 222 #[.pointer (some ⟨p,0,none⟩),.int .i64 id,.int .i64 timer] w fun e w'=>e=.returned (.int .i64 (thSleep t id timer).2)∧ThreadsAt w' F p (thSleep t id timer).1∧Ch F w w'∧w'.heap.size=w.heap.size:=by
 have HT:=Hd h
 cases hg:mget t.all id with
 | none =>
  have A:=Hd (find_no w h id hg)
  have e:thSleep t id timer=(t,4):=by unfold thSleep;rw [hg]
  rw [e];clear e h hg
  go_enter func222,ntmps222
  go_wp2_with fail;refine A.out.mono ?_;rintro e w1 ⟨rfl,rfl⟩;go_wp2;go_returns
  exact ⟨rfl,HT.out,Ch.refl _ _,rfl⟩
 | some x =>
  obtain ⟨sp,mb,ptr,c,h⟩:=h;have A:=Hd (find_yes w h id hg)
  have hb:=h.blk _ (mget_mem hg)
  dsimp only at hb
  have k4:w.cell? ⟨ptr id,4,none⟩=some (.bool x.sleeps):=hb.1.cell 4
  cases hs:x.sleeps with
  | true =>
   have e:thSleep t id timer=(t,6):=by unfold thSleep;rw [hg];simp [hs]
   rw [e];rw [hs] at k4;clear e h hg hb hs
   go_enter func222,ntmps222
   go_wp2_with fail;refine A.out.mono ?_;rintro e w1 ⟨rfl,rfl⟩;go_wp2;go_returns
   exact ⟨rfl,HT.out,Ch.refl _ _,rfl⟩
  | false =>
   have e:thSleep t id timer=(⟨t.ids,t.cpus,mput t.all id ⟨x.prio,x.mask,x.cpu,x.forced,true,timer⟩⟩,0):=by unfold thSleep;rw [hg];simp [hs]
   rw [e];rw [hs] at k4
   have f4:w.frozen? ⟨ptr id,4,none⟩=false:=hb.1.frozen 4
   have k5:w.cell? ⟨ptr id,5,none⟩=some (.int .i64 x.timer):=hb.1.cell 5
   have f5:w.frozen? ⟨ptr id,5,none⟩=false:=hb.1.frozen 5
   have H:=Hd h;have HB:=Hd hb;have HG:=Hd hg
   have hm:=Hd (h.keys _ (mget_mem hg)).2
   clear e h hg hb hs
   go_enter func222,ntmps222
   go_wp2_with fail;refine A.out.mono ?_;rintro e w1 ⟨rfl,rfl⟩;go_wp2;go_returns
   exact ⟨rfl,(H.out.set (y:=⟨x.prio,x.mask,x.cpu,x.forced,true,timer⟩) HG.out hm.out ((HB.out.1.set 4 _).set 5 _) (((Ch.refl (fun k=>k=ptr id) w).put 4 _).put 5 _)).at,((Ch.refl _ _).setCell (p:=⟨ptr id,4,none⟩) (fun _=>HB.out.2.1) _).setCell (p:=⟨ptr id,5,none⟩) (fun _=>HB.out.2.1) _,by simp⟩
def thWake (t:Threads) (id:Int):Threads × Int × Int :=
 match mget t.all id with
 | none=>(t,0,4)
 | some x=>if x.sleeps then (⟨t.ids,t.cpus,mput t.all id ⟨x.prio,x.mask,x.cpu,x.forced,false,0⟩⟩,x.timer,0) else (t,0,6)
theorem twake_any (w:World) {t:Threads} (h:ThreadsAt w F p t) (id:Int):Calls prog 226 #[.pointer (some ⟨p,0,none⟩),.int .i64 id] w fun e w'=>e=.returned (.tuple #[.int .i64 (thWake t id).2.1,.int .i64 (thWake t id).2.2])∧ThreadsAt w' F p (thWake t id).1∧Ch F w w'∧w'.heap.size=w.heap.size:=by
 have HT:=Hd h
 cases hg:mget t.all id with
 | none =>
  have A:=Hd (find_no w h id hg)
  have e:thWake t id=(t,0,4):=by unfold thWake;rw [hg]
  rw [e];clear e h hg
  go_enter func226,ntmps226
  go_wp2_with fail;refine A.out.mono ?_;rintro e w1 ⟨rfl,rfl⟩;go_wp2;go_returns
  exact ⟨rfl,HT.out,Ch.refl _ _,rfl⟩
 | some x =>
  obtain ⟨sp,mb,ptr,c,h⟩:=h;have A:=Hd (find_yes w h id hg)
  have hb:=h.blk _ (mget_mem hg)
  dsimp only at hb
  have k4:w.cell? ⟨ptr id,4,none⟩=some (.bool x.sleeps):=hb.1.cell 4
  cases hs:x.sleeps with
  | false =>
   have e:thWake t id=(t,0,6):=by unfold thWake;rw [hg];simp [hs]
   rw [e];rw [hs] at k4;clear e h hg hb hs
   go_enter func226,ntmps226
   go_wp2_with fail;refine A.out.mono ?_;rintro e w1 ⟨rfl,rfl⟩;go_wp2;go_returns
   exact ⟨rfl,HT.out,Ch.refl _ _,rfl⟩
  | true =>
   have e:thWake t id=(⟨t.ids,t.cpus,mput t.all id ⟨x.prio,x.mask,x.cpu,x.forced,false,0⟩⟩,x.timer,0):=by unfold thWake;rw [hg];simp [hs]
   rw [e];rw [hs] at k4
   have f4:w.frozen? ⟨ptr id,4,none⟩=false:=hb.1.frozen 4
   have k5:w.cell? ⟨ptr id,5,none⟩=some (.int .i64 x.timer):=hb.1.cell 5
   have f5:w.frozen? ⟨ptr id,5,none⟩=false:=hb.1.frozen 5
   have H:=Hd h;have HB:=Hd hb;have HG:=Hd hg
   have hm:=Hd (h.keys _ (mget_mem hg)).2
   clear e h hg hb hs
   go_enter func226,ntmps226
   go_wp2_with fail;refine A.out.mono ?_;rintro e w1 ⟨rfl,rfl⟩;go_wp2;go_returns
   exact ⟨rfl,(H.out.set (y:=⟨x.prio,x.mask,x.cpu,x.forced,false,0⟩) HG.out hm.out ((HB.out.1.set 4 _).set 5 _) (((Ch.refl (fun k=>k=ptr id) w).put 4 _).put 5 _)).at,((Ch.refl _ _).setCell (p:=⟨ptr id,4,none⟩) (fun _=>HB.out.2.1) _).setCell (p:=⟨ptr id,5,none⟩) (fun _=>HB.out.2.1) _,by simp⟩
theorem tlist_any (w:World) {t:Threads} (h:ThreadsAt w F p t):Calls prog 313 #[.pointer (some ⟨p,0,none⟩)] w fun e w'=>(∃ v,e=.returned v∧IntsAt w' (New w) v (slotList 32 t.ids))∧Below w.heap.size w w':=by
 obtain ⟨sp,mb,ptr,c,h⟩:=h
 have c0:w.cell? ⟨p,0,none⟩=some (.pointer (some ⟨sp,0,none⟩)):=h.head.cell 0
 have A:=Hd (slot_list w h.ids);clear h
 go_enter func313,ntmps313
 go_wp2_with fail;refine A.out.mono ?_;rintro e w1 ⟨⟨v,rfl,hv⟩,hb⟩;have HV:=Hd hv;have HB:=Hd hb;clear hv hb;go_wp2;go_returns
 exact ⟨⟨v,rfl,HV.out⟩,HB.out⟩
theorem ThreadsAt.ltF {t:Threads} (h:ThreadsAt w F p t):∀ b,F b→b < w.heap.size:=by obtain ⟨sp,mb,ptr,c,h⟩:=h;exact h.lt
theorem ThreadsAtQ.del {p sp mb:Nat} {ptr:Int→Nat} {c:Nat→Nat} {t:Threads} (h:ThreadsAtQ w F p sp mb ptr c t) (id:Int):ThreadsAtQ (mapDel w mb id) F p sp mb ptr c ⟨t.ids,t.cpus,mdel t.all id⟩:=by
 have hne:∀ i b,i≠2→Col F c i b→¬ b=mb:=fun i b hi hb e=>by subst e;exact hi (hb.2.symm.trans h.fm.2)
 refine ⟨h.head.ch (mapDel_ch _ _ _) (hne 1 _ (by omega) h.fp),h.ids.ch (mapDel_ch _ _ _) (fun b hb=>hne 0 b (by omega) hb),?_,h.fp,h.fm,fun b hb=>by rw [mapDel_size];exact h.lt b hb,fun x hx=>?_,fun x hx=>h.keys x (mem_mdel hx)⟩
 ·show MapAt _ mb (encP ptr (mdel t.all id))
  rw [← encP_del]
  exact h.map.del id
 ·have:=h.blk x (mem_mdel hx)
  exact ⟨this.1.ch (mapDel_ch _ _ _) (hne _ _ (by omega) this.2),this.2⟩
theorem ThreadsAtQ.turn {p sp mb:Nat} {ptr:Int→Nat} {c:Nat→Nat} {t:Threads} (h:ThreadsAtQ w F p sp mb ptr c t) {s:Slot} (hs:SlotAt w' (Plus w w' (Col F c 0)) sp 32 s) (hc:Ch (Col F c 0) w w'):ThreadsAtQ w' (Plus w w' F) p sp mb ptr (recol w c 0) ⟨s,t.cpus,t.all⟩:=by
 refine ⟨h.head.ch hc (Col.apart (by omega) _ h.fp),hs.mono (Col.new h.lt),h.map.ch hc (Col.apart (by omega) _ h.fm),Col.old h.lt _ h.fp,Col.old h.lt _ h.fm,Plus.lt h.lt hc.size,fun x hx=>?_,h.keys⟩
 have:=h.blk x hx
 exact ⟨this.1.ch hc (Col.apart (by omega) _ this.2),Col.old h.lt _ this.2⟩
def thExit (t:Threads) (id:Int):Threads × Int :=
 match mget t.all id with
 | none=>(t,4)
 | some _=>(⟨(slotGive 32 t.ids id).1,t.cpus,mdel t.all id⟩,(slotGive 32 t.ids id).2)
theorem texit_any (w:World) {t:Threads} (h:ThreadsAt w F p t) (id:Int):Calls prog 219 #[.pointer (some ⟨p,0,none⟩),.int .i64 id] w fun e w'=>e=.returned (.int .i64 (thExit t id).2)∧ThreadsAt w' (Plus w w' F) p (thExit t id).1∧Ch F w w':=by
 have HT:=Hd h
 cases hg:mget t.all id with
 | none =>
  have A:=Hd (find_no w h id hg)
  have e:thExit t id=(t,4):=by unfold thExit;rw [hg]
  rw [e];clear e h hg
  go_enter func219,ntmps219
  go_wp2_with fail;refine A.out.mono ?_;rintro e w1 ⟨rfl,rfl⟩;go_wp2;go_returns
  exact ⟨rfl,by rw [Plus.self];exact HT.out,Ch.refl _ _⟩
 | some x =>
  obtain ⟨sp,mb,ptr,c,h⟩:=h;have A:=Hd (find_yes w h id hg)
  have e:thExit t id=(⟨(slotGive 32 t.ids id).1,t.cpus,mdel t.all id⟩,(slotGive 32 t.ids id).2):=by unfold thExit;rw [hg]
  rw [e]
  have c0:w.cell? ⟨p,0,none⟩=some (.pointer (some ⟨sp,0,none⟩)):=h.head.cell 0
  have c2:w.cell? ⟨p,2,none⟩=some (.map (some mb)):=h.head.cell 2
  have hdel:=fun ty=>run_del (P:=prog) (w:=w) h.map underlying209 underlying3 id ty 3
  have H:=Hd h;clear e h hg
  go_enter func219,ntmps219
  go_wp2_with fail;refine A.out.mono ?_;rintro e w1 ⟨rfl,rfl⟩;go_wp2_with fail
  have hX:=H.out.del id
  refine (slot_give _ hX.ids id).mono ?_;rintro e w1 ⟨rfl,hf,hc⟩;have HR:=Hd (hX.turn hf hc);rw [Plus.of_size (show (mapDel w mb id).heap.size=w.heap.size by simp)] at HR
  have HC:=Hd ((((Ch.refl F w).mapDel (fun _=>H.out.fm.1) id)).trans (Col.ch hc))
  clear hX hf hc;go_wp2;go_returns
  exact ⟨rfl,HR.out.at,HC.out⟩
def thSpawn (t:Threads) (prio:Int) (m:Nat):Threads × Int × Int :=
 if prio < 0∨8≤prio∨rightM t.cpus m=false then (t,0,2) else
 if (slotTake 32 t.ids).2.2≠0 then (⟨(slotTake 32 t.ids).1,t.cpus,t.all⟩,0,(slotTake 32 t.ids).2.2) else
 (⟨(slotTake 32 t.ids).1,t.cpus,mput t.all (slotTake 32 t.ids).2.1 ⟨prio,m,0,false,false,0⟩⟩,(slotTake 32 t.ids).2.1,0)
theorem slotTake_pos {most:Nat} {s:Slot} (h:(slotTake most s).2.2=0):1≤(slotTake most s).2.1:=by
 unfold slotTake at *
 split
 ·rename_i e;rw [if_pos e] at h;cases h
 ·rename_i e
  rw [if_neg e] at h
  split
  ·show 1≤((Lib.ctz 64 (top64 - 1 - s.m):Nat):Int)+1
   omega
  ·rename_i e2;rw [if_neg e2] at h;cases h
theorem encP_new {α:Type} {ptr:Int→Nat} {id:Int} {m:List (Int × α)} (hn:(m.map (·.1)).Nodup) (x:α) (n:Nat):mput (encP ptr m) id (.pointer (some ⟨n,0,none⟩))=encP (fun k=>if k=id then n else ptr k) (mput m id x):=by
 induction m with
 | nil=>simp [encP,mput]
 | cons y t ih =>
  simp only [List.map_cons,List.nodup_cons] at hn
  simp only [encP,List.map_cons,mput] at *
  split
  ·rename_i e
   simp only [List.map_cons,if_true]
   congr 1
   apply List.map_congr_left
   intro z hz
   have:z.1≠id:=fun e2=>hn.1 (by rw [e,← e2];exact List.mem_map.2 ⟨z,hz,rfl⟩)
   simp [this]
  ·rename_i e
   rw [ih hn.2]
   simp [e]
theorem ThreadsAtQ.add {p sp mb:Nat} {ptr:Int→Nat} {c:Nat→Nat} {t:Threads} (h:ThreadsAtQ w F p sp mb ptr c t) (id:Int) (x:Thread) (hid:0≤id) (hx:x.mask < top64) :
  ThreadsAt (mapPut (w.alloc (.cells (thCells x) 79)) mb id (.pointer (some ⟨w.heap.size,0,none⟩))) (Plus w (w.alloc (.cells (thCells x) 79)) F) p ⟨t.ids,t.cpus,mput t.all id x⟩:=by
 have hs:(w.alloc (.cells (thCells x) 79)).heap.size=w.heap.size+1:=by simp
 have hca:Ch (fun _=>False) w (w.alloc (.cells (thCells x) 79)):=(Ch.refl _ w).alloc _
 have hmb:=h.lt _ h.fm.1
 have hne:∀ i b,i≠2→Col F c i b→¬ b=mb:=fun i b hi hb e=>by subst e;exact hi (hb.2.symm.trans h.fm.2)
 have hn:(t.all.map (·.1)).Nodup:=by have:=h.map.nodup;rwa [encP_keys] at this
 have hch:Ch (fun b=>b=mb) w (mapPut (w.alloc (.cells (thCells x) 79)) mb id (.pointer (some ⟨w.heap.size,0,none⟩))):=(hca.mono (fun _ _ h=>h.elim)).trans (mapPut_ch _ _ _ _)
 refine ⟨sp,mb,fun k=>if k=id then w.heap.size else ptr k,recol w c (10+id.toNat),h.head.ch hch (hne 1 _ (by omega) h.fp),(h.ids.ch hch (fun b hb=>hne 0 b (by omega) hb)).mono (Col.old h.lt),?_,Col.old h.lt _ h.fp,Col.old h.lt _ h.fm,?_,?_,?_⟩
 ·have h1:=(MapAt.ch h.map hca (fun h=>h)).put id (.pointer (some ⟨w.heap.size,0,none⟩))
  have h2:mput (encP ptr t.all) id (.pointer (some ⟨w.heap.size,0,none⟩))=encP (fun k=>if k=id then w.heap.size else ptr k) (mput t.all id x):=encP_new hn x w.heap.size
  rw [h2] at h1
  exact h1
 ·rw [mapPut_size,hs]
  exact fun b hb=>hb.elim (fun e=>Nat.lt_succ_of_lt (h.lt b e)) (fun e=>by rw [hs] at e;exact e.2)
 ·intro z hz
  rcases mem_mput' hn hz with rfl | ⟨hz,hzn⟩
  ·simp only [if_true]
   refine ⟨(Blk.new w _ _).ch (mapPut_ch _ _ _ _) (by omega),⟨.inr ⟨Nat.le_refl _,by rw [hs];omega⟩,recol_new (Nat.le_refl _)⟩⟩
  ·have hb:=h.blk z hz
   simp only [hzn,if_false]
   exact ⟨hb.1.ch hch (hne _ _ (by omega) hb.2),Col.old h.lt _ hb.2⟩
 ·intro z hz
  rcases mem_mput' hn hz with rfl | ⟨hz,hzn⟩
  ·exact ⟨hid,hx⟩
  ·exact h.keys z hz
theorem tspawn_any (w:World) {t:Threads} (h:ThreadsAt w F p t) (hT:Tab w) (prio:Int) (m:Nat) (hm:m < top64):Calls prog 129 #[.pointer (some ⟨p,0,none⟩),.int .i64 prio,.int .u64 m] w fun e w'=>e=.returned (.tuple #[.int .i64 (thSpawn t prio m).2.1,.int .i64 (thSpawn t prio m).2.2])∧ThreadsAt w' (Plus w w' F) p (thSpawn t prio m).1∧Ch F w w':=by
 have HT:=Hd h;have B:=Hd (tright_any w h m hm)
 by_cases hp:prio < 0∨(0≤prio∧8≤prio)
 ·have e:thSpawn t prio m=(t,0,2):=by unfold thSpawn;rw [if_pos (by omega)]
  rw [e];clear e h
  rcases hp with hp | ⟨hp0,hp⟩
  all_goals
   go_enter func129,ntmps129
   go_wp2;go_returns
   exact ⟨rfl,by rw [Plus.self];exact HT.out,Ch.refl _ _⟩
 ·have hp0:0≤prio:=by omega
  have hp8:prio < 8:=by omega
  cases hr:rightM t.cpus m with
  | false =>
   have e:thSpawn t prio m=(t,0,2):=by unfold thSpawn;rw [if_pos (.inr (.inr hr))]
   rw [e];rw [hr] at B;clear e h hp hr
   go_enter func129,ntmps129
   go_wp2_with fail;refine B.out.mono ?_;rintro e w1 ⟨rfl,rfl⟩;go_wp2;go_returns
   exact ⟨rfl,by rw [Plus.self];exact HT.out,Ch.refl _ _⟩
  | true =>
   rw [hr] at B;obtain ⟨sp,mb,ptr,c,h⟩:=h
   have c0:w.cell? ⟨p,0,none⟩=some (.pointer (some ⟨sp,0,none⟩)):=h.head.cell 0
   have hz:=slotTake_pos (most:=32) (s:=t.ids)
   have A:=Hd (slot_take w h.ids hT)
   have e:thSpawn t prio m=if (slotTake 32 t.ids).2.2≠0 then (⟨(slotTake 32 t.ids).1,t.cpus,t.all⟩,0,(slotTake 32 t.ids).2.2) else (⟨(slotTake 32 t.ids).1,t.cpus,mput t.all (slotTake 32 t.ids).2.1 ⟨prio,m,0,false,false,0⟩⟩,(slotTake 32 t.ids).2.1,0):=by unfold thSpawn;rw [if_neg (by rw [hr];simp;omega)]
   rw [e];have H:=Hd h;clear e h hp hr;generalize slotTake 32 t.ids=r at *;obtain ⟨s,id,why⟩:=r;dsimp only at hz A
   by_cases hw:why=0
   ·subst hw
    have hz':=hz rfl
    have HZ:=Hd hz';rw [if_neg (by simp)];clear hz hz'
    go_enter func129,ntmps129
    go_wp2_with fail;refine B.out.mono ?_;rintro e w1 ⟨rfl,rfl⟩;go_wp2_with fail;refine A.out.mono ?_;rintro e w1 ⟨rfl,hf,hc⟩
    have hX:=H.out.turn hf hc
    have HX:=Hd hX;have HC:=Hd (Col.ch hc)
    have c2:w1.cell? ⟨p,2,none⟩=some (.map (some mb)):=hX.head.cell 2
    have hput:=fun o=>run_put (P:=prog) (w:=w1.alloc o) (MapAt.ch hX.map ((Ch.refl (fun _=>False) w1).alloc o) (fun h=>h)) underlying209 underlying3 id (.pointer (some ⟨w1.heap.size,0,none⟩))
    clear hf hc hX;go_wp2;go_returns
    have HA:=HX.out.add id ⟨prio,m,0,false,false,0⟩ (by have:=HZ.out;omega) hm
    refine ⟨rfl,?_,?_⟩
    ·rw [Plus.plus HC.out.size (by simp)] at HA
     rw [Plus.of_size' (show _=(w1.alloc (.cells (thCells ⟨prio,m,0,false,false,0⟩) 79)).heap.size by simp)]
     exact HA
    ·exact (HC.out.trans ((Ch.refl F w1).alloc _)).mapPut (fun _=>H.out.fm.1) _ _
   ·have hb:(why != 0)=true:=by simpa using hw
    rw [if_pos hw];clear hz hw
    go_enter func129,ntmps129
    go_wp2_with fail;refine B.out.mono ?_;rintro e w1 ⟨rfl,rfl⟩;go_wp2_with fail;refine A.out.mono ?_;rintro e w1 ⟨rfl,hf,hc⟩;have HX:=Hd (H.out.turn hf hc);have HC:=Hd (Col.ch hc);clear hf hc;go_wp2;go_returns
    exact ⟨rfl,HX.out.at,HC.out⟩
theorem tnew_any (w:World) (cpus:Int) (h1:1≤cpus) (h64:cpus≤64):Calls prog 50 #[.int .i64 cpus] w fun e w'=>(∃ p,e=.returned (.tuple #[.pointer (some ⟨p,0,none⟩),.int .i64 0])∧ThreadsAt w' (Plus w w' (fun _=>False)) p ⟨⟨0,0⟩,cpus,[]⟩)∧Below w.heap.size w w':=by
 have A:=Hd (slot_new w 32 (by omega) (by omega))
 have hmm:=@run_makeMap prog
 go_enter func50,ntmps50
 go_wp2_with fail;refine A.out.mono ?_;rintro e w1 ⟨⟨sp,rfl,hs⟩,hb⟩;have HS:=Hd hs;have HB:=Hd hb;clear hs hb;go_wp2;go_returns;have hz:=HB.out.size
 refine ⟨⟨w1.heap.size+1,by simp,sp,w1.heap.size,fun _=>0,fun b=>if b=w1.heap.size+1 then 1 else if b=w1.heap.size then 2 else 0,Blk.at _ _ (by simp),?_,?_,⟨.inr (by simp;omega),by simp⟩,⟨.inr (by simp;omega),by simp⟩,?_,(fun x hx=>by cases hx),(fun x hx=>by cases hx)⟩,HB.out.trans (Ch.below (F:=fun _=>False) (by (repeat (first | with_reducible exact Ch.refl _ _ | (with_reducible refine Ch.alloc ?_ _) | (with_reducible refine Ch.drew ?_) | (with_reducible refine Ch.drewN ?_ _)))) hz (fun _ _ h=>h))⟩
 ·refine (HS.out.ch (G:=fun _=>False) (by (repeat (first | with_reducible exact Ch.refl _ _ | (with_reducible refine Ch.alloc ?_ _) | (with_reducible refine Ch.drew ?_) | (with_reducible refine Ch.drewN ?_ _)))) (fun _ _ h=>h)).mono (fun b hb=>?_)
  rcases hb with hb | ⟨h3,h4⟩
  ·exact hb.elim
  ·exact ⟨.inr ⟨h3,by simp;omega⟩,by dsimp only;rw [if_neg (by omega),if_neg (by omega)]⟩
 ·exact (MapAt.new w1).ch ((Ch.refl (fun _=>False) _).alloc _) (fun h=>h)
 ·rintro b (hb | ⟨h3,h4⟩)
  ·exact hb.elim
  ·exact h4
end Go.Proofs.YtiocbpabbjgkhaaGreatDoor
