/- Part 26 of the proof: contracts and plain laws, each under the conditions that it names. -/
import Derived.Test.YtiocbpabbjgkhaaGreatDoorWak25
import Derived.Deep.Slices
import Derived.Deep.Fields
import Derived.ChangeSame
import Derived.SizedLaws
import Derived.ChangeSlices
import Derived.RowKit
set_option maxRecDepth 100000
set_option maxHeartbeats 20000000
set_option linter.unusedVariables false
set_option linter.unusedSimpArgs false
namespace Go.Proofs.YtiocbpabbjgkhaaGreatDoor
open Go.RowKit Go.Proofs.Tryz
variable {w w' : World} {F : Nat → Prop} {p : Nat} {f : KF} {k : K}
section
open Go.Proofs.YtiocbpabbjgkhaaGreatDoor.NumD
structure Bk (k:K) (b:Book):Prop where
 works:b.works.Perm (keysK k)
 calls:b.calls.Perm (keysC k)
 timers:b.timers.Perm (keysW k)
 ok:b.ok=true
def play1 (e:Ev) (t:Int) (b:Book) (r:Rec):Book:=if r.kind≠1 then bookRec b r else if r.why=0 then bookRet b e r.id t else b
def play (e:Ev) (t:Int) (b:Book) (l:List Rec):Book:=l.foldl (play1 e t) b
theorem play_ans (e:Ev) (t:Int) (b:Book) (id why:Int):play e t b (ansF id why)=if why=0 then bookRet b e id t else b:=by
 unfold play ansF
 simp only [List.foldl]
 unfold play1;rw [if_neg (by simp)]
 split
 ·rfl
 ·rfl
theorem play_one (e:Ev) (t:Int) (b:Book) (r:Rec) (h:r.kind≠1):play e t b [r]=bookRec b r:=by
 unfold play
 simp only [List.foldl]
 unfold play1;rw [if_pos h]
theorem rec_none (b:Book) (r:Rec) (h5:r.kind≠5) (h6:r.kind≠6) (h3:r.kind≠3):bookRec b r=b:=by
 unfold bookRec;rw [if_neg h5,if_neg h6,if_neg h3]
theorem ret_none (b:Book) (e:Ev) (id t:Int) (h:e.kind≠18∧e.kind≠20∧e.kind≠10∧e.kind≠6∧e.kind≠11∧e.kind≠7∧e.kind≠4):bookRet b e id t=b:=by
 unfold bookRet;rw [if_neg h.1,if_neg h.2.1,if_neg (by omega),if_neg h.2.2.2.2.1,if_neg (by omega)]
def Eff (k k':K) (e:Ev) (t:Int) (l:List Rec):Prop:=KOk k→KOk k'∧k'.cpus=k.cpus∧∀ b,Bk k b→Bk k' (play e t b l)
theorem KQ.bk {k k':K} (q:KQ k k') (h:KOk k) {b:Book} (hb:Bk k b):Bk k' b:=by
 obtain ⟨_,_,a,c,d⟩:=q h
 exact ⟨by rw [c];exact hb.works,hb.calls.trans d.symm,by rw [a];exact hb.timers,hb.ok⟩
theorem Eff.quiet {k k':K} (q:KQ k k') {e:Ev} {t:Int} {l:List Rec} (hl:∀ b,play e t b l=b):Eff k k' e t l:=fun h =>
 ⟨(q h).1,(q h).2.1,fun b hb=>by rw [hl];exact q.bk h hb⟩
theorem Eff.ans {k k':K} (q:KQ k k') {e:Ev} {t id why:Int} (hn:why=0→e.kind≠18∧e.kind≠20∧e.kind≠10∧e.kind≠6∧e.kind≠11∧e.kind≠7∧e.kind≠4):Eff k k' e t (ansF id why) :=
 Eff.quiet q fun b=>by
  rw [play_ans]
  split
  ·rename_i h
   exact ret_none b e id t (hn h)
  ·rfl
theorem Eff.bad {e:Ev} {t id why:Int} (hn:why≠0):Eff k k e t (ansF id why):=Eff.ans (KQ.refl k) fun h=>absurd h hn
theorem Eff.nothing {k k':K} (q:KQ k k') {e:Ev} {t:Int}:Eff k k' e t []:=Eff.quiet q fun _=>rfl
theorem Eff.pre {a k k':K} (q:KQ a k) {e:Ev} {t:Int} {l:List Rec} (h:Eff k k' e t l):Eff a k' e t l:=fun ok=>by
 obtain ⟨o,c,d⟩:=h (q ok).1
 exact ⟨o,c.trans (q ok).2.1,fun b hb=>d b (q.bk ok hb)⟩
theorem Eff.post {k k1 k':K} {e:Ev} {t:Int} {l:List Rec} (h:Eff k k1 e t l) (q:KQ k1 k'):Eff k k' e t l:=fun ok=>by
 obtain ⟨o,c,d⟩:=h ok
 exact ⟨(q o).1,(q o).2.1.trans c,fun b hb=>q.bk o (d b hb)⟩
theorem kThing_eff {cpu what:Int} {e:Ev} {t:Int} (h4:what=4→0 < boxLoad k.cl cpu) (h6:what=6→timersReady k.tm cpu=true)
  (h7:what=7→0 < worksLoad k.wk cpu+worksLoad k.wk (-1)) (hc:what=7→wMay k.wk.l.length cpu 0=0):Eff k (kThing k cpu what).1 e t (kThing k cpu what).2:=by
 unfold kThing
 split
 ·rename_i e4
  intro ok
  obtain ⟨a,b,c⟩:=ok.cl.take cpu
  have h0:=h4 e4
  rcases c with ⟨_,_,c⟩ | ⟨c,d⟩
  ·omega
  ·refine ⟨((KSame.q (kDone_same { k with cl:=(boxTake k.cl cpu).1 } cpu)) ⟨⟨ok.tms.tm,ok.tms.tl,ok.tms.th⟩,ok.cos,ok.wk,ok.wl,a,b.trans ok.ll,ok.lim,ok.gv⟩).1,rfl,fun bk hb=>?_⟩
   rw [play_one _ _ _ _ (show (6:Int)≠1 by decide)];unfold bookRec;dsimp only;rw [if_neg (by decide),if_pos rfl]
   refine ⟨hb.works,?_,hb.timers,?_⟩
   ·exact (hb.calls.erase _).trans d.symm
   ·dsimp only
    rw [hb.ok]
    simp only [Bool.true_and,List.contains_iff_mem]
    exact hb.calls.mem_iff.2 c
 split
 ·exact Eff.quiet ((KSame.q (iq_same k _)).trans (KSame.q (kDone_same _ cpu))) fun b=>by
   rw [play_one _ _ _ _ (show (4:Int)≠1 by decide)]
   exact rec_none _ _ (show (4:Int)≠5 by decide) (show (4:Int)≠6 by decide) (show (4:Int)≠3 by decide)
 split
 ·rename_i e6
  intro ok
  obtain ⟨a,b,c⟩:=ok.tms.fire cpu (h6 e6)
  have hr:Rest k (kFire k cpu):=by
   unfold kFire;dsimp only
   split
   ·exact (Rest.trans (b:=kWake { k with tm:=(timersFire k.tm cpu).1,own:=mdel k.own (timersFire k.tm cpu).2.1 } ((mget k.own (timersFire k.tm cpu).2.1).getD 0)) ⟨rfl,rfl,rfl,rfl,rfl,rfl⟩ (kDone_same _ cpu).rest)
   ·exact (Rest.trans (b:={ k with tm:=(timersFire k.tm cpu).1,own:=mdel k.own (timersFire k.tm cpu).2.1 }) ⟨rfl,rfl,rfl,rfl,rfl,rfl⟩ (kDone_same _ cpu).rest)
  obtain ⟨o,p,q⟩:=ok.tms' a hr
  refine ⟨o,hr.cpus,fun bk hb=>?_⟩
  unfold kFireR;rw [play_one _ _ _ _ (show (3:Int)≠1 by decide)];unfold bookRec;dsimp only;rw [if_neg (by decide),if_neg (by decide),if_pos rfl]
  refine ⟨by rw [p];exact hb.works,hb.calls.trans q.symm,?_,?_⟩
  ·rw [b]
   exact hb.timers.erase _
  ·dsimp only
   rw [hb.ok]
   simp only [Bool.true_and,List.contains_iff_mem]
   exact hb.timers.mem_iff.2 c
 split
 ·rename_i e7
  intro ok
  rcases ok.wk.take cpu with ⟨_,_,_,c⟩ | ⟨c,d,f⟩
  ·have:=h7 e7
   have:=c (hc e7)
   omega
  ·obtain ⟨d1,d2,d3,d4⟩:=ok.wk.drop c
   refine ⟨((KSame.q (kDone_same { k with wk:=(worksTake k.wk cpu).1 } cpu)) ⟨⟨ok.tms.tm,ok.tms.tl,ok.tms.th⟩,ok.cos,by dsimp only;rw [f];exact d1,by dsimp only;rw [f];exact d2.trans ok.wl,ok.cl,ok.ll,ok.lim,ok.gv⟩).1,rfl,fun bk hb=>?_⟩
   rw [play_one _ _ _ _ (show (5:Int)≠1 by decide)];unfold bookRec;dsimp only;rw [if_pos rfl]
   refine ⟨?_,hb.calls,hb.timers,?_⟩
   ·have e1:keysK (kDone { k with wk:=(worksTake k.wk cpu).1 } cpu)=(keysK k).erase (worksTake k.wk cpu).2.1:=by
     show (worksTake k.wk cpu).1.wh.map Prod.fst=_
     rw [f,d4,mdel_keys]
     rfl
    rw [e1]
    exact hb.works.erase _
   ·dsimp only
    rw [hb.ok]
    simp only [Bool.true_and,List.contains_iff_mem]
    exact hb.works.mem_iff.2 (mget_some_iff.1 c)
 ·exact Eff.quiet ((KSame.q (qs_same k _)).trans (KSame.q (kDone_same _ cpu))) fun b=>by
   rw [play_one _ _ _ _ (show (2:Int)≠1 by decide)]
   exact rec_none _ _ (show (2:Int)≠5 by decide) (show (2:Int)≠6 by decide) (show (2:Int)≠3 by decide)
end
section
open Go.Proofs.YtiocbpabbjgkhaaGreatDoor.NumD
theorem next_wants {p idle:Bool} {what w:Int} (h:coreNext p idle what=w) (h0:w≠0) (h1:w≠1):what=w:=by
 unfold coreNext at h
 cases p with
 | false=>simp at h;omega
 | true =>
  cases idle with
  | false=>simpa using h
  | true =>
   simp only [Bool.not_true,Bool.false_eq_true,if_false] at h
   split at h <;> omega
theorem wants_call {s h t a c i m k d:Bool} (e:wants s h t a c i m k d=4):c=true:=by
 cases c with
 | true=>rfl
 | false=>revert s h t a i m k d;decide
theorem wants_due {s h t a c i m k d:Bool} (e:wants s h t a c i m k d=6):m=true:=by
 cases m with
 | true=>rfl
 | false=>revert s h t a c i k d;decide
theorem wants_work {s h t a c i m k d:Bool} (e:wants s h t a c i m k d=7):k=true:=by
 cases k with
 | true=>rfl
 | false=>revert s h t a c i m d;decide
theorem kCount_part (k:K) (cpu what:Int):(kCount k cpu what).cl=k.cl∧(kCount k cpu what).tm=k.tm∧(kCount k cpu what).wk=k.wk∧(kCount k cpu what).cpus=k.cpus:=by
 unfold kCount
 split <;> exact ⟨rfl,rfl,rfl,rfl⟩
theorem st_q (k:K) (s:Stop):KQ k { k with st:=s }:=KSame.q ⟨ThSame.refl _,rfl,rfl,rfl,rfl,rfl,rfl,rfl,rfl,rfl⟩
theorem gt_q (k:K) (s:Gate):KQ k { k with gt:=s }:=KSame.q ⟨ThSame.refl _,rfl,rfl,rfl,rfl,rfl,rfl,rfl,rfl,rfl⟩
theorem ob_q (k:K) (s:Stash):KQ k { k with ob:=s }:=KSame.q ⟨ThSame.refl _,rfl,rfl,rfl,rfl,rfl,rfl,rfl,rfl,rfl⟩
theorem kStep_eff (k:K) (cpu:Int) (h0:0≤cpu) (hc:cpu < k.cpus) (e:Ev) (t:Int):Eff k (kStep k cpu).1 e t (kStep k cpu).2:=by
 intro ok
 revert ok
 show Eff k (kStep k cpu).1 e t (kStep k cpu).2
 unfold kStep
 obtain ⟨w,hw⟩:∃ w,w=kWhat k cpu:=⟨_,rfl⟩
 rw [← hw]
 refine Eff.pre (kCount_q k cpu w) ?_
 obtain ⟨p1,p2,p3,p4⟩:=kCount_part k cpu w
 unfold kAct
 split
 ·exact Eff.nothing (KQ.refl _)
 split
 ·exact Eff.nothing (KQ.set (wakeF_ok _) cpu)
 split
 ·exact Eff.nothing (st_q _ _)
 split
 ·refine Eff.quiet (kTurn_q _ cpu) fun b=>?_
  show play e t b (kTurnR (kTurnB (kCount k cpu w) cpu) (deskCpu (kCount k cpu w).dk))=b
  unfold kTurnR
  split
  ·rw [play_one _ _ _ _ (show (7:Int)≠1 by decide)]
   exact rec_none _ _ (show (7:Int)≠5 by decide) (show (7:Int)≠6 by decide) (show (7:Int)≠3 by decide)
  ·rfl
 split
 ·exact Eff.nothing (kLie_q _ cpu)
 rename_i n0 n1 n2 n3 n9
 have hn:=next_wants hw.symm n0 n1
 intro ok
 refine kThing_eff (fun e4=>?_) (fun e6=>?_) (fun e7=>?_) (fun e7=>?_) ok
 ·have:=wants_call (hn.trans e4)
  rw [p1]
  simpa using this
 ·rw [p2]
  exact wants_due (hn.trans e6)
 ·have:=wants_work (hn.trans e7)
  rw [p3];unfold kWork at this
  have h1:0 < wrap64 (worksLoad k.wk cpu+worksLoad k.wk (-1)):=by simpa using this
  have a:0≤worksLoad k.wk cpu:=by unfold worksLoad;omega
  have b:0≤worksLoad k.wk (-1):=by unfold worksLoad;omega
  rcases Int.lt_or_eq_of_le (Int.add_nonneg a b) with g | g
  ·exact g
  ·rw [← g,show wrap64 0=0 by decide +kernel] at h1
   omega
 ·rw [ok.wl,p4]
  unfold wMay;rw [if_neg (by omega)]
theorem app_perm {l m:List Int} (h:l.Perm m) (x:Int):(l++[x]).Perm (m++[x]):=h.append_right [x]
theorem kQueue_eff (k:K) (cpu:Int) (e:Ev) (t:Int) (hk:e.kind=18):Eff k { k with wk:=(worksQueue k.wk cpu).1 } e t (ansF (worksQueue k.wk cpu).2.1 (worksQueue k.wk cpu).2.2):=fun ok=>by
 obtain ⟨a,b,c⟩:=ok.wk.queue cpu
 refine ⟨⟨⟨ok.tms.tm,ok.tms.tl,ok.tms.th⟩,ok.cos,a,b.trans ok.wl,ok.cl,ok.ll,ok.lim,ok.gv⟩,rfl,fun bk hb=>?_⟩
 rw [play_ans]
 rcases c with ⟨c,d⟩ | ⟨c,d,f⟩
 ·rw [if_neg c]
  exact ⟨by unfold keysK;dsimp only;rw [d];exact hb.works,hb.calls,hb.timers,hb.ok⟩
 ·rw [if_pos c]
  unfold bookRet;rw [if_pos hk]
  refine ⟨?_,hb.calls,hb.timers,hb.ok⟩
  have:keysK { k with wk:=(worksQueue k.wk cpu).1 }=keysK k++[(worksQueue k.wk cpu).2.1]:=by
   show (worksQueue k.wk cpu).1.wh.map Prod.fst=_
   rw [f]
   exact mput_keys_new d
  rw [this]
  exact app_perm hb.works _
theorem kSend_eff (k:K) (cpu:Int) (e:Ev) (t:Int) (hk:e.kind=20):Eff k { k with cl:=(boxSend k.cl cpu).1 } e t (ansF (boxSend k.cl cpu).2.1 (boxSend k.cl cpu).2.2):=fun ok=>by
 obtain ⟨a,b,c⟩:=ok.cl.send cpu
 refine ⟨⟨⟨ok.tms.tm,ok.tms.tl,ok.tms.th⟩,ok.cos,ok.wk,ok.wl,a,b.trans ok.ll,ok.lim,ok.gv⟩,rfl,fun bk hb=>?_⟩
 rw [play_ans]
 rcases c with ⟨c,d⟩ | ⟨c,d⟩
 ·rw [if_neg c]
  exact ⟨hb.works,by unfold keysC;dsimp only;rw [d];exact hb.calls,hb.timers,hb.ok⟩
 ·rw [if_pos c]
  unfold bookRet;rw [if_neg (by omega),if_pos hk]
  exact ⟨hb.works,(app_perm hb.calls _).trans d.symm,hb.timers,hb.ok⟩
theorem ret_arm (b:Book) (e:Ev) (id t:Int) (hk:e.kind=10∨e.kind=6):bookRet b e id t={ b with timers:=b.timers++[id] }:=by
 unfold bookRet;rw [if_neg (by omega),if_neg (by omega),if_pos hk]
theorem arm_eff {k k':K} {e:Ev} {t:Int} {r:Int × Int} (h:TmsOk k→TmsOk k'∧((r.2≠0∧keysW k'=keysW k)∨(r.2=0∧keysW k'=keysW k++[r.1]))) (s:Rest k k') (hk:e.kind=10∨e.kind=6):Eff k k' e t (ansF r.1 r.2):=fun ok=>by
 obtain ⟨a,b⟩:=h ok.tms
 obtain ⟨o,p,q⟩:=ok.tms' a s
 refine ⟨o,s.cpus,fun bk hb=>?_⟩
 rw [play_ans]
 rcases b with ⟨b,c⟩ | ⟨b,c⟩
 ·rw [if_neg b]
  exact ⟨by rw [p];exact hb.works,hb.calls.trans q.symm,by rw [c];exact hb.timers,hb.ok⟩
 ·rw [if_pos b,ret_arm _ _ _ _ hk]
  exact ⟨by rw [p];exact hb.works,hb.calls.trans q.symm,by rw [c];exact app_perm hb.timers _,hb.ok⟩
theorem less_eff {k k':K} {e:Ev} {t d:Int} {l:List Rec} (h:TmsOk k→TmsOk k'∧keysW k'=(keysW k).erase d∧d∈keysW k) (s:Rest k k') (hp:∀ b,play e t b l={ b with timers:=b.timers.erase d,ok:=b.ok && b.timers.contains d }):Eff k k' e t l:=fun ok=>by
 obtain ⟨a,b,c⟩:=h ok.tms
 obtain ⟨o,p,q⟩:=ok.tms' a s
 refine ⟨o,s.cpus,fun bk hb=>?_⟩
 rw [hp]
 refine ⟨by rw [p];exact hb.works,hb.calls.trans q.symm,by rw [b];exact hb.timers.erase _,?_⟩
 dsimp only;rw [hb.ok]
 simp only [Bool.true_and,List.contains_iff_mem]
 exact hb.timers.mem_iff.2 c
theorem kArm_rest (k:K) (cpu n:Int):Rest k (kArm k cpu n):=by
 unfold kArm
 split
 ·exact Rest.refl _
 ·exact ⟨rfl,rfl,rfl,rfl,rfl,rfl⟩
theorem kSleep_rest (k:K) (id:Int) (x:Thread) (n:Int):Rest k (kSleep k id x n):=by
 unfold kSleep
 split
 ·exact Rest.refl _
 ·dsimp only
  generalize (if hasF k.active x.cpu=true then x.cpu else (firstF k.active).1)=cpu
  split <;> exact ⟨rfl,rfl,rfl,rfl,rfl,rfl⟩
theorem kExit_rest (k:K) (id:Int) (x:Thread):Rest k (kExit k id x):=by
 unfold kExit;dsimp only
 split <;> exact ⟨rfl,rfl,rfl,rfl,rfl,rfl⟩
theorem kSpawn_rest (k:K) (prio:Int) (m:Nat):Rest k (kSpawn k prio m):=by
 unfold kSpawn
 split <;> exact ⟨rfl,rfl,rfl,rfl,rfl,rfl⟩
theorem kPlaced_eff (k:K) (e:Ev) (t:Int) (hk:e.kind=18∨e.kind=10∨e.kind=20∨e.kind=21∨e.kind=22∨e.kind=26):Eff k (kPlaced k e).1 e t (kPlaced k e).2:=by
 unfold kPlaced
 split
 ·rename_i h
  exact Eff.bad h
 split
 ·rename_i h
  exact arm_eff (r:=kArmR k e.cpu e.n) (fun ok=>ok.arm e.cpu e.n) (kArm_rest k _ _) (.inl h)
 split
 ·rename_i h
  exact kQueue_eff k e.cpu e t h
 split
 ·rename_i h
  exact kSend_eff k e.cpu e t h
 split
 ·exact Eff.ans (ob_q k _) fun _=>by omega
 split
 ·exact Eff.ans (ob_q k _) fun _=>by omega
 ·exact Eff.ans (gt_q k _) fun _=>by omega
theorem kThreaded_eff (k:K) (e:Ev) (hk:4≤e.kind∧e.kind≤9):Eff k (kThreaded k e).1 e (thGet k.th e.id).1.timer (kThreaded k e).2:=by
 unfold kThreaded
 obtain ⟨g,hg⟩:∃ g,g=thGet k.th e.id:=⟨_,rfl⟩
 rw [← hg];obtain ⟨x,why⟩:=g;unfold kThreadedX;dsimp only
 split
 ·rename_i h
  exact Eff.bad h
 rename_i hw
 have hx:mget k.th.all e.id=some x:=by
  unfold thGet at hg
  cases hm:mget k.th.all e.id with
  | none =>
   rw [hm] at hg
   have:=congrArg Prod.snd hg
   dsimp only at this
   omega
  | some y =>
   rw [hm] at hg
   have:=congrArg Prod.fst hg
   dsimp only at this;rw [this]
 split
 ·exact Eff.ans (KQ.refl k) fun _=>by omega
 split
 ·rename_i h4
  intro ok
  obtain ⟨a,b,c⟩:=ok.tms.exit hx
  rw [b]
  rcases c with ⟨_,c1,c2,c3⟩ | ⟨_,c1,c2⟩
  ·refine less_eff (d:=x.timer) (fun _=>⟨a,c2,c3⟩) (kExit_rest k _ _) (fun bk=>?_) ok
   rw [play_ans,if_pos rfl];unfold bookRet;rw [if_neg (by omega),if_neg (by omega),if_neg (by omega),if_neg (by omega),if_pos (.inr h4),if_pos (by omega)]
  ·refine Eff.quiet (KQ.of_tms (fun _=>⟨a,c2⟩) (kExit_rest k _ _)) (fun bk=>?_) ok
   rw [play_ans,if_pos rfl];unfold bookRet;rw [if_neg (by omega),if_neg (by omega),if_neg (by omega),if_neg (by omega),if_pos (.inr h4),if_neg (by omega)]
 split
 ·have q:KQ k { k with th:=(thAim k.th e.id e.mask).1 }:=KSame.q ⟨thAim_same _ _ _,rfl,rfl,rfl,rfl,rfl,rfl,rfl,rfl,rfl⟩
  dsimp only
  split
  ·exact Eff.ans (q.trans (kMend_same _ _).q) fun _=>by omega
  ·exact Eff.ans q fun _=>by omega
 split
 ·exact Eff.bad (by decide)
 rename_i hs
 split
 ·rename_i h6
  have hs':x.sleeps=false:=by
   cases hb:x.sleeps with
   | false=>rfl
   | true=>exact absurd (by rw [hb,h6];decide) hs
  exact arm_eff (r:=kSleepR k e.id x e.n) (fun ok=>ok.sleep hx hs' e.n) (kSleep_rest k _ _ _) (.inr h6)
 split
 ·exact Eff.ans (KSame.q (qs_same k _)) fun _=>by omega
 ·have h7:e.kind=7:=by omega
  have hs':x.sleeps=true:=by
   cases hb:x.sleeps with
   | true=>rfl
   | false=>exact absurd (by rw [hb,h7];decide) hs
  intro ok
  obtain ⟨a,b,c⟩:=ok.tms.timer hx hs'
  refine less_eff (d:=x.timer) (fun tk=>tk.wake a) (Rest.trans (b:=kQuiet k x.timer) ⟨rfl,rfl,rfl,rfl,rfl,rfl⟩ ⟨rfl,rfl,rfl,rfl,rfl,rfl⟩) (fun bk=>?_) ok
  rw [play_ans,if_pos rfl];unfold bookRet;rw [if_neg (by omega),if_neg (by omega),if_neg (by omega),if_neg (by omega),if_pos (.inl h7),if_pos (by omega)]
end
section
open Go.Proofs.YtiocbpabbjgkhaaGreatDoor.NumD
theorem kLimits_q (k:K) (n:Int):KQ k (kLimits k n):=by
 unfold kLimits
 split
 ·exact KQ.refl _
 ·rename_i h
  exact fun ok=>⟨⟨⟨ok.tms.tm,ok.tms.tl,ok.tms.th⟩,ok.cos,ok.wk,ok.wl,ok.cl,ok.ll,by show 0≤n;omega,ok.gv⟩,rfl,rfl,rfl,.refl _⟩
theorem speed_gv {lo hi s1 s2:Int} (hg:k.gv=List.replicate k.cpus (s1,s2)):(kSpeed k lo hi).gv=List.replicate k.cpus (speedG lo hi (s1,s2)):=by
 show mapTo (speedG lo hi) k.gv k.cpus=_
 have:k.cpus=k.gv.length:=by rw [hg];simp
 rw [this,mapTo_all,hg]
 simp
theorem kSpeed_q (k:K) (lo hi:Int):KQ k (kSpeed k lo hi):=fun ok=>by
 refine ⟨⟨⟨ok.tms.tm,ok.tms.tl,ok.tms.th⟩,ok.cos,ok.wk,ok.wl,ok.cl,ok.ll,ok.lim,?_⟩,rfl,rfl,rfl,.refl _⟩
 obtain ⟨s1,s2,hr,hg⟩:=ok.gv
 have h:=speed_gv (lo:=lo) (hi:=hi) hg
 unfold speedG at h
 split at h
 ·rename_i hr2
  exact ⟨lo,hi,hr2,h⟩
 ·exact ⟨s1,s2,hr,h⟩
theorem kCancel_rest (k:K) (d:Int):Rest k (kCancel k d):=by
 unfold kCancel
 split
 ·exact ⟨rfl,rfl,rfl,rfl,rfl,rfl⟩
 ·exact Rest.refl _
theorem kRest_eff (k:K) (e:Ev) (t:Int) (hk:e.kind≠18∧e.kind≠20∧e.kind≠10∧e.kind≠6∧e.kind≠7∧e.kind≠4):Eff k (kRest k e).1 e t (kRest k e).2:=by
 unfold kRest
 split
 ·rename_i h
  intro ok
  obtain ⟨a,b⟩:=ok.tms.cancel e.id
  rcases b with ⟨b,c⟩ | ⟨b,c,d⟩
  ·refine Eff.quiet (KQ.of_tms (fun _=>⟨a,c⟩) (kCancel_rest k _)) (fun bk=>?_) ok
   rw [play_ans,if_neg b]
  ·refine less_eff (d:=e.id) (fun _=>⟨a,c,d⟩) (kCancel_rest k _) (fun bk=>?_) ok
   rw [play_ans,if_pos b];unfold bookRet;rw [if_neg (by omega),if_neg (by omega),if_neg (by omega),if_pos h]
 split
 ·exact Eff.ans (KQ.refl k) fun _=>by omega
 split
 ·exact Eff.ans (kPlan_same k _).q fun _=>by omega
 split
 ·exact Eff.ans (gt_q k _) fun _=>by omega
 split
 ·exact Eff.ans (kLimits_q k _) fun _=>by omega
 split
 ·exact Eff.ans (kSpeed_q k _ _) fun _=>by omega
 split
 ·exact Eff.ans (kBalance_same k).q fun _=>by omega
 ·exact Eff.bad (by decide)
theorem kDo_eff (k:K) (e:Ev):Eff k (kDo k e).1 e (thGet k.th e.id).1.timer (kDo k e).2:=by
 unfold kDo
 split
 ·unfold kDoStep
  split
  ·exact Eff.bad (by decide)
  ·exact kStep_eff k e.cpu (by omega) (by omega) e _
 split
 ·exact Eff.ans (kTick_q k _) fun _=>by omega
 split
 ·exact Eff.ans (KQ.of_tms (fun h=>h.spawn _ _) (kSpawn_rest k _ _)) fun _=>by omega
 split
 ·rename_i h
  exact kThreaded_eff k e h
 split
 ·exact Eff.ans (kInterrupt_same k e).q fun _=>by omega
 split
 ·rename_i h
  unfold kDoQueue
  split
  ·exact kQueue_eff k (-1) e _ h
  ·exact kPlaced_eff k e _ (.inl h)
 split
 ·rename_i h
  exact kPlaced_eff k e _ (.inr h)
 split
 ·exact Eff.ans (kRequest_same k _ _).q fun _=>by omega
 ·exact kRest_eff k e _ (by omega)
theorem kNew_ok (cpus:Nat):KOk (kNew cpus):=by
 refine ⟨⟨TmOk.start cpus,?_,ThOk.start _ _⟩,⟨?_,fun c hc=>?_⟩,WkOk.start cpus,?_,BxOk.start cpus,?_,(show (0:Int)≤1073741824 by decide),100,1000,by decide,rfl⟩
 ·simp [kNew,timers0]
 ·simp [kNew]
 ·have:c=onCore:=by
   have hc:c∈List.replicate cpus onCore:=hc
   exact List.eq_of_mem_replicate hc
  rw [this]
  exact fun h=>by cases h
 ·simp [kNew,works0]
 ·simp [kNew,box0]
end
def al1:K:=(kDo (kNew 2) ⟨3,0,2,3,0⟩).1
def al2:K:=(kDo al1 ⟨1,1,0,0,0⟩).1
def al3:K:=(kDo al2 ⟨24,1,0,0,0⟩).1
def alTo (i:Nat):K:=(List.range i).foldl (fun k (j:Nat)=>(kDo k ⟨1,(j:Int).tmod 2,0,0,0⟩).1) al3
theorem al_a:(kDo (kNew 2) ⟨3,0,2,3,0⟩).2=[⟨1,0,1,0,0⟩]:=by kernel_rfl
theorem al_b:(kDo al1 ⟨1,1,0,0,0⟩).2=[⟨2,1,1,0,0⟩]:=by kernel_rfl
theorem al_c:(kDo al2 ⟨24,1,0,0,0⟩).2=[⟨1,0,0,0,0⟩]:=by kernel_rfl
theorem alTo_succ (i:Nat):alTo (i+1)=(kDo (alTo i) ⟨1,(i:Int).tmod 2,0,0,0⟩).1:=by
 unfold alTo;rw [List.range_succ,List.foldl_append]
 rfl
theorem al1_ok:KOk al1:=(kDo_eff _ _ (kNew_ok 2)).1
theorem al2_ok:KOk al2:=(kDo_eff _ _ al1_ok).1
theorem al3_ok:KOk al3:=(kDo_eff _ _ al2_ok).1
theorem alTo_ok:∀ i,KOk (alTo i)
 | 0=>al3_ok
 | i+1=>by rw [alTo_succ];exact (kDo_eff _ _ (alTo_ok i)).1
theorem al_on:(alTo 40).online=1:=by kernel_rfl
section
open Go.Proofs.YtiocbpabbjgkhaaGreatDoor.NumD
theorem recK_box {v:Value} {r:Rec} (h:RecsK w w' F p f k v [r]):∃ F1 b,Lk w F w' F1∧KAt w' F1 p f k∧v=.slice (some ⟨b,0,none⟩) 1 1∧Bx w' F1 b (recC r) 43:=by
 obtain ⟨F1,a,b,c⟩:=h
 rcases c with ⟨c,_⟩ | ⟨g,r',h1,h2,h3,h4,_⟩
 ·cases c
 ·cases h1
  exact ⟨F1,g,a,b,h2,h3,h4⟩
theorem Bx.recs {b:Nat} {r:Rec} (h:Bx w F b (recC r) 43):RecsAt w (.slice (some ⟨b,0,none⟩) 1 1) [r]:=.inr ⟨b,r,rfl,rfl,h.blk⟩
theorem KAt.kdo' (h:KAt w F p f k) (ok:KOk k) (e:Ev) (hm:e.mask < top64) (hn:In64 e.n):Calls prog 13 #[.pointer (some ⟨p,0,none⟩),.agg (evC e)] w fun r w'=>∃ v,r=.returned v∧RecsK w w' F p f (kDo k e).1 v (kDo k e).2 :=
 (h.kdo ok.fit e hm hn).mono fun _ _ ⟨⟨v,a,b⟩,_⟩=>⟨v,a,b⟩
theorem alive_any (w:World) (hT:Tab w) (h2:2 < w.heap.size):Calls prog 9 #[] w fun e w'=>e=.returned (.bool true)∧Below w.heap.size w w':=by
 have z0:In64 0:=by unfold In64;omega
 have N:=Hd (new_any w 2 (by omega) (by omega) hT h2)
 clear hT h2
 go_enter func9,ntmps9
 go_wp2_with fail;refine N.out.mono ?_;rintro e w1 ⟨⟨p,f,rfl,HK⟩,hb0⟩;replace HK:=Hd HK;replace hb0:=Hd hb0;clear N
 have D1:Calls prog 13 #[.pointer (some ⟨p,0,none⟩),.agg #[.int .i64 3,.int .i64 0,.int .i64 2,.int .u64 3,.int .i64 0]] w1 _:=HK.out.kdo' (kNew_ok 2) ⟨3,0,2,3,0⟩ (by show (3:Nat) < top64;unfold top64;omega) z0
 rw [al_a] at D1;replace D1:=Hd D1;go_wp2_with fail;refine D1.out.mono ?_;rintro e w2 ⟨va,rfl,hv⟩;clear D1
 obtain ⟨F1,ba,L1,K1,rfl,BA⟩:=recK_box hv
 have HL:=Hd L1;replace HK:=Hd (show KAt w2 F1 p f al1 from K1);replace BA:=Hd BA;clear hv L1 K1
 have D1:Calls prog 13 #[.pointer (some ⟨p,0,none⟩),.agg #[.int .i64 1,.int .i64 1,.int .i64 0,.int .u64 0,.int .i64 0]] w2 _:=HK.out.kdo' al1_ok ⟨1,1,0,0,0⟩ (by show (0:Nat) < top64;unfold top64;omega) z0
 rw [al_b] at D1;replace D1:=Hd D1;go_wp2_with fail;refine D1.out.mono ?_;rintro e w3 ⟨vb,rfl,hv⟩;clear D1
 obtain ⟨F2,bb,L1,K1,rfl,BB⟩:=recK_box hv
 replace BA:=Hd (BA.out.lk L1);replace HL:=Hd (HL.out.trans L1);replace HK:=Hd (show KAt w3 F2 p f al2 from K1);replace BB:=Hd BB;clear hv L1 K1
 have D1:Calls prog 13 #[.pointer (some ⟨p,0,none⟩),.agg #[.int .i64 24,.int .i64 1,.int .i64 0,.int .u64 0,.int .i64 0]] w3 _:=HK.out.kdo' al2_ok ⟨24,1,0,0,0⟩ (by show (0:Nat) < top64;unfold top64;omega) z0
 rw [al_c] at D1;replace D1:=Hd D1;go_wp2_with fail;refine D1.out.mono ?_;rintro e w4 ⟨vc,rfl,hv⟩;clear D1
 obtain ⟨F3,bc,L1,K1,rfl,BC⟩:=recK_box hv
 replace BA:=Hd (BA.out.lk L1);replace BB:=Hd (BB.out.lk L1);replace HL:=Hd (HL.out.trans L1)
 replace HK:=Hd (show KAt w4 F3 p f (alTo 0) from K1)
 replace BC:=Hd BC;clear hv L1 K1;go_wp2
 go_loopw [6] (fun iv wr=>∃ (i:Nat) (F':Nat→Prop),iv=.int .i64 i∧i≤40∧Hid (KAt wr F' p f (alTo i))∧Hid (Lk w1 (Plus w w1 (fun _=>False)) wr F')∧Hid (Bx wr F' ba (recC ⟨1,0,1,0,0⟩) 43)∧Hid (Bx wr F' bb (recC ⟨2,1,1,0,0⟩) 43)∧Hid (Bx wr F' bc (recC ⟨1,0,0,0,0⟩) 43)) (fun iv _=>40 - (intOf iv).toNat)
 case atStart=>exact ⟨0,F3,rfl,by omega,HK,HL,BA,BB,BC⟩
 case round =>
  clear HK HL BA BB BC;obtain ⟨i,F',rfl,hi,HK,HL,BA,BB,BC⟩:=hrel
  by_cases hlt:i < 40
  ·have D1:Calls prog 13 #[.pointer (some ⟨p,0,none⟩),.agg #[.int .i64 1,.int .i64 ((i:Int).tmod 2),.int .i64 0,.int .u64 0,.int .i64 0]] wr _:=HK.out.kdo' (alTo_ok i) ⟨1,(i:Int).tmod 2,0,0,0⟩ (by show (0:Nat) < top64;unfold top64;omega) z0
   rw [← alTo_succ] at D1;replace D1:=Hd D1;go_wp2_with fail;refine D1.out.mono ?_;rintro e w5 ⟨v,rfl,hv⟩;clear D1;obtain ⟨F4,L1,K1,-⟩:=hv;replace BA:=Hd (BA.out.lk L1);replace BB:=Hd (BB.out.lk L1);replace BC:=Hd (BC.out.lk L1);replace HL:=Hd (HL.out.trans L1);replace HK:=Hd K1;clear L1 K1;go_wp2;go_roundw
   case rel=>exact ⟨i+1,F4,by go_num,hlt,HK,HL,BA,BB,BC⟩
   case measure=>simp [intOf];omega
  ·have:i=40:=by omega
   subst this
   have B1:Calls prog 75 #[.slice (some ⟨ba,0,none⟩) 1 1,.slice (some ⟨wr.heap.size,0,none⟩) 1 1] (wr.alloc (.cells #[.int .i64 1,.int .i64 0,.int .i64 1,.int .i64 0,.int .i64 0] 43)) _:=same_one (BA.out.alloc _).recs (RecsAt.one wr ⟨1,0,1,0,0⟩)
   replace B1:=Hd B1;go_wp2_with fail;refine B1.out.mono ?_;rintro e w6 ⟨rfl,n6,rfl⟩;clear B1
   obtain ⟨W6,hW6⟩:∃ W6,W6=(wr.alloc (.cells #[.int .i64 1,.int .i64 0,.int .i64 1,.int .i64 0,.int .i64 0] 43)).drewN n6:=⟨_,rfl⟩
   have L1:Lk wr F' W6 F':=by rw [hW6];exact ((Lk.refl wr F').alloc _).drewN n6
   replace BB:=Hd (BB.out.lk L1);replace BC:=Hd (BC.out.lk L1);replace HL:=Hd (HL.out.trans L1)
   replace HK:=Hd (show KAt W6 F' p f (alTo 40) by rw [hW6];exact (HK.out.alloc _).drewN n6)
   rw [← hW6];replace hW6:=Hd hW6;clear L1 BA
   have B1:Calls prog 75 #[.slice (some ⟨bb,0,none⟩) 1 1,.slice (some ⟨W6.heap.size,0,none⟩) 1 1] (W6.alloc (.cells #[.int .i64 2,.int .i64 1,.int .i64 1,.int .i64 0,.int .i64 0] 43)) _:=same_one (BB.out.alloc _).recs (RecsAt.one W6 ⟨2,1,1,0,0⟩)
   replace B1:=Hd B1;go_wp2_with fail;refine B1.out.mono ?_;rintro e w7 ⟨rfl,n7,rfl⟩;clear B1
   obtain ⟨W7,hW7⟩:∃ W7,W7=(W6.alloc (.cells #[.int .i64 2,.int .i64 1,.int .i64 1,.int .i64 0,.int .i64 0] 43)).drewN n7:=⟨_,rfl⟩
   have L1:Lk W6 F' W7 F':=by rw [hW7];exact ((Lk.refl W6 F').alloc _).drewN n7
   replace BC:=Hd (BC.out.lk L1);replace HL:=Hd (HL.out.trans L1)
   replace HK:=Hd (show KAt W7 F' p f (alTo 40) by rw [hW7];exact (HK.out.alloc _).drewN n7)
   rw [← hW7];replace hW7:=Hd hW7;clear L1 BB
   have B1:Calls prog 75 #[.slice (some ⟨bc,0,none⟩) 1 1,.slice (some ⟨W7.heap.size,0,none⟩) 1 1] (W7.alloc (.cells #[.int .i64 1,.int .i64 0,.int .i64 0,.int .i64 0,.int .i64 0] 43)) _:=same_one (BC.out.alloc _).recs (RecsAt.one W7 ⟨1,0,0,0,0⟩)
   replace B1:=Hd B1;go_wp2_with fail;refine B1.out.mono ?_;rintro e w8 ⟨rfl,n8,rfl⟩;clear B1
   obtain ⟨W8,hW8⟩:∃ W8,W8=(W7.alloc (.cells #[.int .i64 1,.int .i64 0,.int .i64 0,.int .i64 0,.int .i64 0] 43)).drewN n8:=⟨_,rfl⟩
   have L1:Lk W7 F' W8 F':=by rw [hW8];exact ((Lk.refl W7 F').alloc _).drewN n8
   replace HL:=Hd (HL.out.trans L1)
   replace HK:=Hd (show KAt W8 F' p f (alTo 40) by rw [hW8];exact (HK.out.alloc _).drewN n8)
   rw [← hW8];replace hW8:=Hd hW8;clear L1 BC;have B1:=HK.out.konline;rw [al_on] at B1;replace B1:=Hd B1;go_wp2_with fail;refine B1.out.mono ?_;rintro e w9 ⟨rfl,rfl⟩;clear B1;go_wp2;go_returns
   exact ⟨rfl,hb0.out.trans (HL.out.1.below hb0.out.size (fun b hb e=>e.elim (fun e=>e) (fun e=>by omega)))⟩
end
end Go.Proofs.YtiocbpabbjgkhaaGreatDoor
namespace Go.Proofs.YtiocbpabbjgkhaaGreatDoor.Open
open Go.ChangeShapes Go.WideShapes Go.Deep Go.RowKit
section
variable {H : Type} {enc : TypeId × Value → H} {P : Program} {w : World} {base : Nat} {spare : Nat → Bool} {held : Bool}
theorem slice_structs {t e:TypeId} {fs:Array Field} {a:Option Addr} {len cap:Nat} {d:DataW H} {ps:List MemPlace} {ts:List TypeId} {ds:List (DataW H)} {j:Nat}
  (hsz:(DataW.weightsEach P ts ds).all (·≤reachBytes)=true) (htj:ts[j]? = some t) (hdj:ds[j]? = some d) (ht:P.underlying t=some (.slice e)) (he:P.underlying e=some (.struct fs))
  (hone:oneCellFields P fs=true) (hC:P.cellsOf e=fs.size) {B:Nat} (hB:P.bytesOf e=B) (h:DataW.Trod enc P w base spare held t (.slice a len cap) d ps) :
  len*B≤140737488351232∧len≤cap∧(0 < len→∃ ad,a=some ad)∧∃ V:Nat→Nat→Value,∀ i,i < len→∀ ad,a=some ad→∀ (j:Nat) (f:Field),fs[j]? = some f →
   w.cell? (ad.add (i*fs.size+j))=some (V i j)∧∃ n y,DataW.trod enc P w base spare held n f.type [V i j]=some y:=by
 obtain ⟨fuel,hf⟩:=h
 rcases open_slice ht hf with ⟨hcs,_⟩ | ⟨x,l,c,m,n,D,Pl,hcs,hb,hl,hm,hmm,hx,hi⟩
 ·simp [Value.cells] at hcs
  obtain ⟨rfl,rfl,rfl⟩:=hcs
  exact ⟨by simp,Nat.le_refl _,fun h=>by omega,fun _ _=>.bool false,fun i hi=>by omega⟩
 ·simp [Value.cells] at hcs
  obtain ⟨rfl,rfl,rfl⟩:=hcs
  have hlm:len≤m:=by rw [hmm];split <;> omega
  refine ⟨?_,hl,fun _=>⟨_,rfl⟩,fun i j=>(w.cell? (x.add (i*fs.size+j))).getD (.bool false),?_⟩
  ·obtain ⟨hx,_⟩:=Prod.mk.inj hx
   subst hx
   have z:=sized_slice hsz htj hdj ht
   rw [hB] at z
   simp only [List.length_map,List.length_range] at z
   have:reachBytes=140737488351232:=rfl
   exact Nat.le_trans (Nat.mul_le_mul_right _ (by omega)) z
  ·intro i hil ad had j f hj
   obtain rfl:x=ad:=by simpa using had
   obtain ⟨cs',hc,ht'⟩:=hi i (by omega)
   rw [hC] at hc
   obtain ⟨ys,n',hn',hy,hlen,hyl,hf⟩:=DataW.trod_struct he ht'
   obtain ⟨_,hcl,hat⟩:=World.cells?_some hc
   obtain ⟨ho,hk⟩:=hone_of hone j f hj
   have hjl:j < fs.size:=(Array.getElem?_eq_some_iff.1 hj).1
   have hcell:=hat j hjl
   have hv:cs'[j]? = some (cs'[j]'(by omega)):=List.getElem?_eq_getElem (by omega)
   have h1:=hf j f hj
   rw [ho,hk] at h1
   have hone':(cs'.drop j).take 1=[cs'[j]'(by omega)]:=by
    rw [List.drop_eq_getElem_cons (by omega)]
    rfl
   rw [hone'] at h1
   have hys:ys[j]? = some (ys[j]'(by omega)):=List.getElem?_eq_getElem (by omega)
   have hcc:w.cell? (x.add (i*fs.size+j))=some (cs'[j]'(by omega)):=by rw [← Go.Deep.add_add,hcell,hv]
   simp only [hcc,Option.getD_some]
   exact ⟨trivial,_,_,h1.trans hys⟩
def numOf:Value→Int
 | .int _ n=>n
 | _=>0
def boolOf:Value→Bool
 | .bool b=>b
 | _=>false
inductive FK where
 | int (k:IntKind)
 | bool
def FK.val:FK→Value→Value
 | .int k,v=>.int k (numOf v)
 | .bool,v=>.bool (boolOf v)
def FK.ok:FK→Value→Prop
 | .int k,v=>(Lit.int k (numOf v)).wf=true
 | .bool,_=>True
def FK.under (P:Program):FK→TypeId→Prop
 | .int k,t=>P.underlying t=some (.int k)
 | .bool,t=>P.underlying t=some .bool
theorem FK.reads {k:FK} {t:TypeId} {v:Value} (ht:k.under P t) (h:∃ n y,DataW.trod enc P w base spare held n t [v]=some y):v=k.val v∧k.ok v:=by
 obtain ⟨n,y,h⟩:=h
 cases k with
 | int k =>
  obtain ⟨m,hv,_,hw⟩:=DataW.trod_int ht h
  simp at hv
  subst hv
  exact ⟨rfl,hw⟩
 | bool =>
  obtain ⟨m,hv,_⟩:=DataW.trod_bool ht h
  simp at hv
  subst hv
  exact ⟨rfl,trivial⟩
def FKs (P:Program) (fs:Array Field) (ks:List FK):Prop:=ks.length=fs.size∧∀ (j:Nat) (k:FK),ks[j]? = some k→∃ f,fs[j]? = some f∧k.under P f.type
def StructRow (w:World) (a:Option Addr) (len:Nat) (ks:List FK) (V:Nat→Nat→Value):Prop :=
 (0 < len→∃ ad,a=some ad)∧∀ i,i < len→∀ ad,a=some ad→∀ (j:Nat) (k:FK),ks[j]? = some k→w.cell? (ad.add (i*ks.length+j))=some (k.val (V i j))∧k.ok (V i j)
theorem open_rows {t e:TypeId} {fs:Array Field} {ks:List FK} (hk:FKs P fs ks) {a:Option Addr} {len cap:Nat} {d:DataW H} {ps:List MemPlace} {ts:List TypeId} {ds:List (DataW H)} {j:Nat}
  (hsz:(DataW.weightsEach P ts ds).all (·≤reachBytes)=true) (htj:ts[j]? = some t) (hdj:ds[j]? = some d) (ht:P.underlying t=some (.slice e)) (he:P.underlying e=some (.struct fs))
  (hone:oneCellFields P fs=true) (hC:P.cellsOf e=fs.size) {B:Nat} (hB:P.bytesOf e=B) (h:DataW.Trod enc P w base spare held t (.slice a len cap) d ps) :
  len*B≤140737488351232∧len≤cap∧∃ V:Nat→Nat→Value,StructRow w a len ks V:=by
 obtain ⟨h1,h2,h3,V,h4⟩:=slice_structs hsz htj hdj ht he hone hC hB h
 refine ⟨h1,h2,V,h3,fun i hi ad had j k hj=>?_⟩
 obtain ⟨f,hf,hu⟩:=hk.2 j k hj
 obtain ⟨hc,hr⟩:=h4 i hi ad had j f hf
 obtain ⟨hv,ho⟩:=FK.reads hu hr
 rw [hk.1,← hv]
 exact ⟨hc,ho⟩
end
end Go.Proofs.YtiocbpabbjgkhaaGreatDoor.Open
namespace Go.Proofs.YtiocbpabbjgkhaaGreatDoor
open Go.RowKit Go.Proofs.Tryz
variable {w w' : World} {F : Nat → Prop} {p : Nat} {f : KF} {k : K}
section
open Go.Proofs.YtiocbpabbjgkhaaGreatDoor.NumD Go.Proofs.YtiocbpabbjgkhaaGreatDoor.Open
def evKs:List FK:=[.int .i64,.int .i64,.int .i64,.int .u64,.int .i64]
def evV (V:Nat→Nat→Value) (i:Nat):Ev:=⟨numOf (V i 0),numOf (V i 1),numOf (V i 2),(numOf (V i 3)).toNat,numOf (V i 4)⟩
structure EvsIn (w:World) (a:Option Addr) (n:Nat) (E:Nat→Ev):Prop where
 base:0 < n→∃ b off,a=some ⟨b,off,none⟩
 cell:∀ b off,a=some ⟨b,off,none⟩→∀ i,i < n→∀ j v,(evC (E i))[j]? = some v→w.cell? ⟨b,off+i*5+j,none⟩=some v
 ok:∀ i,i < n→(E i).mask < top64∧In64 (E i).kind∧In64 (E i).cpu∧In64 (E i).id∧In64 (E i).n
theorem spot_no {W:World} {b off:Nat} {sp:Option Nat} {v:Value} (h:W.cell? ((⟨b,off,sp⟩:Addr).add 0)=some v):sp=none:=by
 cases sp with
 | none=>rfl
 | some q=>simp [World.cell?,Addr.add] at h;split at h <;> simp at h
theorem add_off (b off i:Nat):(⟨b,off,none⟩:Addr).add i=⟨b,off+i,none⟩:=by
 unfold Addr.add
 split
 ·subst_vars;rfl
 ·rfl
theorem wf_i64 {n:Int} (h:(Lit.int .i64 n).wf=true):In64 n:=by
 have h1:IntKind.i64.min=-9223372036854775808:=by decide
 have h2:IntKind.i64.max=9223372036854775807:=by decide
 simp [Lit.wf,h1,h2] at h
 unfold In64
 omega
theorem wf_u64 {n:Int} (h:(Lit.int .u64 n).wf=true):0≤n∧n < top64:=by
 have h1:IntKind.u64.min=0:=by decide
 have h2:IntKind.u64.max=18446744073709551615:=by decide
 simp [Lit.wf,h1,h2] at h
 unfold top64
 omega
theorem evs_in {W:World} {a:Option Addr} {len:Nat} {V:Nat→Nat→Value} (row:StructRow W a len evKs V):EvsIn W a len (evV V):=by
 refine ⟨fun hp=>?_,fun b off e i hi j v hj=>?_,fun i hi=>?_⟩
 ·obtain ⟨⟨b,off,sp⟩,rfl⟩:=row.1 hp
  have:=spot_no (W:=W) (b:=b) (off:=off) (row.2 0 hp _ rfl 0 _ rfl).1
  subst this
  exact ⟨b,off,rfl⟩
 ·have r:=fun j k (hk:evKs[j]? = some k)=>row.2 i hi _ e j k hk
  have add:=fun j=>(add_off b off (i*5+j)).trans (by rw [Nat.add_assoc]:(⟨b,off+(i*5+j),none⟩:Addr)=⟨b,off+i*5+j,none⟩)
  rcases j with _ | _ | _ | _ | _ | j
  ·have:=(r 0 _ rfl).1
   rw [show evKs.length=5 from rfl,add] at this
   cases hj
   exact this
  ·have:=(r 1 _ rfl).1
   rw [show evKs.length=5 from rfl,add] at this
   cases hj
   exact this
  ·have:=(r 2 _ rfl).1
   rw [show evKs.length=5 from rfl,add] at this
   cases hj
   exact this
  ·have h3:=r 3 _ rfl
   have h4:=wf_u64 h3.2
   have:=h3.1
   rw [show evKs.length=5 from rfl,add] at this
   cases hj
   rw [this]
   show some (Value.int .u64 (numOf (V i 3)))=some (Value.int .u64 ((numOf (V i 3)).toNat:Int))
   rw [Int.toNat_of_nonneg h4.1]
  ·have:=(r 4 _ rfl).1
   rw [show evKs.length=5 from rfl,add] at this
   cases hj
   exact this
  ·simp [evC] at hj
 ·obtain ⟨ad,rfl⟩:=row.1 (by omega)
  have r:=fun j k (hk:evKs[j]? = some k)=>(row.2 i hi _ rfl j k hk).2
  have h3:=wf_u64 (r 3 _ rfl)
  refine ⟨?_,wf_i64 (r 0 _ rfl),wf_i64 (r 1 _ rfl),wf_i64 (r 2 _ rfl),wf_i64 (r 4 _ rfl)⟩
  show (numOf (V i 3)).toNat < top64
  omega
theorem EvsIn.at {b off n:Nat} {E:Nat→Ev} (h:EvsIn w (some ⟨b,off,none⟩) n E) {i:Nat} (hi:i < n):w.cell? ⟨b,off+i*5,none⟩=some (.int .i64 (E i).kind)∧w.cell? ⟨b,off+i*5+1,none⟩=some (.int .i64 (E i).cpu)∧w.cell? ⟨b,off+i*5+2,none⟩=some (.int .i64 (E i).id)∧w.cell? ⟨b,off+i*5+3,none⟩=some (.int .u64 (E i).mask)∧w.cell? ⟨b,off+i*5+4,none⟩=some (.int .i64 (E i).n) :=
 ⟨h.cell b off rfl i hi 0 _ rfl,h.cell b off rfl i hi 1 _ rfl,h.cell b off rfl i hi 2 _ rfl,h.cell b off rfl i hi 3 _ rfl,h.cell b off rfl i hi 4 _ rfl⟩
theorem EvsIn.below {a:Option Addr} {n:Nat} {E:Nat→Ev} (h:EvsIn w a n E) (hb:Below w.heap.size w w'):EvsIn w' a n E :=
 ⟨h.base,fun b off e i hi j v hj=>keepcell hb (h.cell b off e i hi j v hj),h.ok⟩
end
section
open Go.Proofs.YtiocbpabbjgkhaaGreatDoor.NumD
theorem KAt.kalive (h:KAt w F p f k):Calls prog 9 #[] w fun e w'=>e=.returned (.bool true)∧Below w.heap.size w w':=alive_any w h.tab h.tab.two
theorem top_below {W w1 wr:World} (hb:Below W.heap.size W w1) (L:Lk w1 (Plus W w1 (fun _=>False)) wr F):Below W.heap.size W wr :=
 hb.trans (L.1.below hb.size (fun b hb e=>e.elim (fun e=>e) (fun e=>by omega)))
def kPlay (k:K) (E:Nat→Ev):Nat→K
 | 0=>k
 | n+1=>(kDo (kPlay k E n) (E n)).1
theorem kDo_ok (ok:KOk k) (e:Ev):KOk (kDo k e).1∧(kDo k e).1.cpus=k.cpus:=⟨(kDo_eff k e ok).1,(kDo_eff k e ok).2.1⟩
theorem kPlay_ok (ok:KOk k) (E:Nat→Ev):∀ n,KOk (kPlay k E n)∧(kPlay k E n).cpus=k.cpus
 | 0=>⟨ok,rfl⟩
 | n+1=>by
  have h:=kPlay_ok ok E n
  have g:=kDo_ok h.1 (E n)
  exact ⟨g.1,g.2.trans h.2⟩
theorem coreGet_ok {l:List Core} {cpu:Int} {c:Core} (h:coreGet l cpu=(c,0)):∃ i:Nat,cpu=i∧i < l.length∧l.getD i noCore=c:=by
 unfold coreGet at h
 split at h
 ·exact absurd (congrArg Prod.snd h) (by simp)
 ·rename_i hm
  obtain ⟨i,rfl,hi⟩:=may_yes (Classical.not_not.1 hm)
  exact ⟨i,rfl,hi,by simpa using congrArg Prod.fst h⟩
theorem few_cases {n:Nat} {len:Nat} (h:true=(decide (1≤(n:Int)) && decide ((n:Int)≤9) && decide (len≤300))):n≤9∧len≤300:=by
 have:=h.symm
 simp only [Bool.and_eq_true,decide_eq_true_eq] at this
 omega
end
section
open Go.Proofs.YtiocbpabbjgkhaaGreatDoor.NumD
def waitsK (k:K) (cpu:Int):Bool:=decide (0 < boxLoad k.cl cpu) || timersReady k.tm cpu || kWork k cpu || decide (0 < runqLoad k.qs cpu) || (kWaits k cpu).2
def otherK (k:K) (cpu:Int):Bool:=stopMust k.st cpu || kHot k cpu
def stepE (cpu:Int):Ev:=⟨1,cpu,0,0,0⟩
def wantsK (k:K) (cpu:Int):Int:=wants (stopMust k.st cpu) (hasF k.st.held cpu) (kHot k cpu) (hasF k.active cpu) (decide (0 < boxLoad k.cl cpu)) (kWaits k cpu).2 (timersReady k.tm cpu) (kWork k cpu) (decide (0 < runqLoad k.qs cpu))
theorem wants_rest {s t c i m k d:Bool} (h:(c || m || k || d || i || (s || t))=false):wants s false t true c i m k d=9:=by
 cases s <;> cases t <;> cases c <;> cases i <;> cases m <;> cases k <;> cases d <;> first | exact absurd h (by decide) | rfl
theorem wants_some {s t c i m k d:Bool} (h:(c || m || k || d || i || (s || t))=true):wants s false t true c i m k d≠0∧wants s false t true c i m k d≠9∧(s=false→t=false→4≤wants s false t true c i m k d∧wants s false t true c i m k d≤8):=by
 cases s <;> cases t <;> cases c <;> cases i <;> cases m <;> cases k <;> cases d <;> first | exact absurd h (by decide) | decide
theorem kThing_one (k:K) (cpu what:Int):∃ r,(kThing k cpu what).2=[r]∧r.cpu=cpu∧2≤r.kind∧r.kind≤6:=by
 unfold kThing
 split
 ·exact ⟨_,rfl,rfl,by simp,by simp⟩
 split
 ·exact ⟨_,rfl,rfl,by simp,by simp⟩
 split
 ·exact ⟨_,rfl,rfl,by simp,by simp⟩
 split
 ·exact ⟨_,rfl,rfl,by simp,by simp⟩
 ·exact ⟨_,rfl,rfl,by simp,by simp⟩
theorem kDo_step {i:Nat} (hi:i < k.cpus):kDo k (stepE i)=kStep k i:=by
 unfold kDo stepE;rw [if_pos rfl];unfold kDoStep;rw [if_neg (by dsimp only;omega)]
theorem set_getD_self {α:Type} {l:List α} {i:Nat} (h:i < l.length) (x d:α):(l.set i x).getD i d=x:=by
 simp [List.getD_eq_getElem?_getD,h]
def coK (k:K) (l:List Core):K:={ k with co:=l }
theorem kStep_at {i:Nat} (hi:i < k.co.length) {c:Core} (hc:k.co.getD i noCore=c) (hp:c.power=true) {what:Int} (hw:coreNext c.power c.idle (wantsK k i)=what) :
  kStep k i=kAct (coK k (k.co.set i (countF (what != 0 && what != 9) c).1)) i what:=by
 have hg:(coreGet k.co i).1=c:=by rw [coreGet_in hi];exact hc
 unfold kStep
 have hw2:kWhat k i=what:=by
  unfold kWhat;rw [hg]
  exact hw
 rw [hw2];unfold kCount;rw [hg,if_pos hp,coreSet_in hi,hc]
 rfl
theorem wantsK_co (k:K) (l:List Core) (cpu:Int):wantsK (coK k l) cpu=wantsK k cpu:=rfl
theorem wakes_law (ok:KOk k) {i:Nat} (hi:i < k.cpus) (hidle:(k.co.getD i noCore).idle=true) (ha:hasF k.active i=true) (hh:hasF k.st.held i=false) (ht:tickOk k.now=true) :
  (kDo k (stepE i)).2=[]∧(coreGet (kDo k (stepE i)).1.co i).1.idle=!(waitsK k i || otherK k i) ∧
  (waitsK k i=false∨otherK k i=true∨∃ r,(kDo (kDo k (stepE i)).1 (stepE i)).2=[r]∧r.cpu=i∧2≤r.kind∧r.kind≤6):=by
 have hil:i < k.co.length:=by rw [ok.cos.1];exact hi
 obtain ⟨c,hc⟩:∃ c,k.co.getD i noCore=c:=⟨_,rfl⟩
 rw [hc] at hidle
 have hp:c.power=true:=(ok.cos.2 c (by rw [← hc,List.getD_eq_getElem?_getD,List.getElem?_eq_getElem hil];exact List.getElem_mem hil) hidle).1
 have hwk:wantsK k i=wants (stopMust k.st i) false (kHot k i) true (decide (0 < boxLoad k.cl i)) (kWaits k i).2 (timersReady k.tm i) (kWork k i) (decide (0 < runqLoad k.qs i)):=by
  unfold wantsK;rw [ha,hh]
 rw [kDo_step hi]
 by_cases hw:(waitsK k i || otherK k i)=true
 ·obtain ⟨w0,w9,ws⟩:=wants_some hw
  rw [← hwk] at w0 w9 ws
  have e1:=kStep_at hil hc hp (what:=1) (by rw [hp,hidle];unfold coreNext;rw [if_neg (by simp),if_neg (by simp),if_neg (by omega)])
  obtain ⟨l1,hl1⟩:∃ l1,l1=k.co.set i (countF ((1:Int) != 0 && (1:Int) != 9) c).1:=⟨_,rfl⟩
  rw [← hl1] at e1
  have len1:i < l1.length:=by rw [hl1,List.length_set];exact hil
  have g1:l1.getD i noCore=(countF true c).1:=by rw [hl1,set_getD_self hil];rfl
  have hi1:(countF true c).1.idle=true:=hidle
  have e2:kStep k i=(coK k (l1.set i (wakeF k.now (countF true c).1).1),[]):=by
   rw [e1];unfold kAct;rw [if_neg (by decide),if_pos rfl,coreSet_in (l:=(coK k l1).co) len1]
   show (coK k (l1.set i (wakeF k.now (l1.getD i noCore)).1),([]:List Rec))=_
   rw [g1]
  obtain ⟨d,hd⟩:∃ d,d=(wakeF k.now (countF true c).1).1:=⟨_,rfl⟩
  rw [← hd] at e2
  have d1:d.idle=false∧d.power=true:=by
   rw [hd];unfold wakeF
   rw [if_neg (by rw [ht];decide),if_neg (by rw [hi1];decide)]
   exact ⟨rfl,hp⟩
  obtain ⟨l2,hl2⟩:∃ l2,l2=l1.set i d:=⟨_,rfl⟩
  rw [← hl2] at e2
  have len2:i < l2.length:=by rw [hl2,List.length_set];exact len1
  have g2:l2.getD i noCore=d:=by rw [hl2,set_getD_self len1]
  rw [e2,hw]
  refine ⟨rfl,?_,?_⟩
  ·show (coreGet l2 i).1.idle=false
   rw [coreGet_in len2]
   show (l2.getD i noCore).idle=false
   rw [g2]
   exact d1.1
  ·by_cases ho:otherK k i=true
   ·exact .inr (.inl ho)
   ·refine .inr (.inr ?_)
    have ho:otherK k i=false:=by simpa using ho
    unfold otherK at ho
    obtain ⟨ho1,ho2⟩:=Bool.or_eq_false_iff.1 ho
    obtain ⟨a,b⟩:=ws ho1 ho2
    rw [show kDo (coK k l2,([]:List Rec)).1 (stepE i)=kStep (coK k l2) i from kDo_step (k:=coK k l2) hi]
    rw [kStep_at (k:=coK k l2) len2 g2 d1.2 (what:=wantsK k i) (by rw [d1.1,d1.2,wantsK_co];rfl)]
    unfold kAct;rw [if_neg (by omega),if_neg (by omega),if_neg (by omega),if_neg (by omega),if_neg (by omega)]
    exact kThing_one _ _ _
 ·have hw:(waitsK k i || otherK k i)=false:=by simpa using hw
  have w9:=wants_rest hw
  rw [← hwk] at w9
  have e1:=kStep_at hil hc hp (what:=0) (by rw [hp,hidle,w9];rfl)
  have g:(k.co.set i (countF ((0:Int) != 0 && (0:Int) != 9) c).1).getD i noCore=(countF false c).1:=by rw [set_getD_self hil];rfl
  have e2:kStep k i=(coK k (k.co.set i (countF ((0:Int) != 0 && (0:Int) != 9) c).1),[]):=by
   rw [e1];unfold kAct;rw [if_pos rfl]
  rw [e2,hw]
  refine ⟨rfl,?_,.inl (Bool.or_eq_false_iff.1 hw).1⟩
  show (coreGet (k.co.set i _) i).1.idle=true
  rw [coreGet_in (by rw [List.length_set];exact hil)]
  show ((k.co.set i _).getD i noCore).idle=true
  rw [g]
  exact hidle
end
end Go.Proofs.YtiocbpabbjgkhaaGreatDoor
