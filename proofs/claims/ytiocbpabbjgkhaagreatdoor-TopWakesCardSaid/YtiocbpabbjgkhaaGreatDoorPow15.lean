/- Part 15 of the proof: contracts and plain laws, each under the conditions that it names. -/
import Derived.Test.YtiocbpabbjgkhaaGreatDoorPow14
set_option maxRecDepth 100000
set_option maxHeartbeats 20000000
set_option linter.unusedVariables false
set_option linter.unusedSimpArgs false
namespace Go.Proofs.YtiocbpabbjgkhaaGreatDoor
open Go.RowKit Go.Proofs.Tryz
variable {w w' : World} {F : Nat → Prop} {p : Nat}
def irqTo (t:Irqs) (k:Nat):List Int:=((List.range k).filter (fun n=>(t.all.getD n noIrq).wanted)).map fun (n:Nat)=>(n:Int)
def irqList (t:Irqs):List Int:=irqTo t 16
theorem irqTo_yes {t:Irqs} {k:Nat} (h:(t.all.getD k noIrq).wanted=true):irqTo t (k+1)=irqTo t k++[(k:Int)]:=by
 unfold irqTo;rw [List.range_succ,List.filter_append,List.map_append]
 congr 1
 simp only [List.filter_cons,List.filter_nil,h,if_true,List.map_cons,List.map_nil]
theorem irqTo_no {t:Irqs} {k:Nat} (h:(t.all.getD k noIrq).wanted=false):irqTo t (k+1)=irqTo t k:=by
 unfold irqTo;rw [List.range_succ,List.filter_append,List.map_append]
 simp only [List.filter_cons,List.filter_nil,h,Bool.false_eq_true,if_false,List.map_nil,List.append_nil]
theorem irqTo_len (t:Irqs) (k:Nat):(irqTo t k).length≤k:=by
 unfold irqTo;rw [List.length_map]
 exact Nat.le_trans (List.length_filter_le _ _) (by simp)
theorem ilist_any (w:World) {t:Irqs} (h:IrqsAt w F p t):Calls prog 314 #[.pointer (some ⟨p,0,none⟩)] w fun e w'=>(∃ v,e=.returned v∧IntsAt w' (New w) v (irqList t))∧Below w.heap.size w w':=by
 obtain ⟨A,hA⟩:∃ A,A=(t.all.flatMap irqL).toArray:=⟨_,rfl⟩
 have hlen:(t.all.flatMap irqL).length=64:=by rw [flat_len irqL_len,h.len]
 have hl:(loadVar 216 ⟨p,0,none⟩).run prog w=.ok (.agg A) w:=by
  rw [hA]
  refine run_loadAgg (fun w=>isAgg216 w) (fun w=>by rw [hlen];exact sizeOf216 w) w (fun j v hj=>?_)
  have hj2:j < 64:=by have:=(List.getElem?_eq_some_iff.1 hj).1;rwa [hlen] at this
  rw [Nat.zero_add,h.head.cell,List.getElem?_toArray,List.getElem?_append_left (by rw [hlen];exact hj2)]
  exact hj
 have hix:Hid (∀ (k:Nat) W,k < 16→(Instr.index 216 (.agg A) (.int .i64 k)).run prog W=.ok (.agg #[.bool (t.all.getD k noIrq).wanted,.bool (t.all.getD k noIrq).masked,.bool (t.all.getD k noIrq).pending,.int .u64 (t.all.getD k noIrq).mask]) W):=Hd (fun k W hk=>by
  rw [run_idx underlying216 hk (fun w=>isAgg187 w) (fun w=>sizeOf187 w) W,hA]
  congr 2
  apply Array.ext_getElem?
  intro i
  by_cases hi:i < 4
  ·have e1:((t.all.flatMap irqL).toArray.extract (k*4) (k*4+4))[i]? = (irqL (t.all.getD k noIrq))[i]?:=by
    rw [Array.getElem?_extract,if_pos (by rw [List.size_toArray,hlen];omega),List.getElem?_toArray,flat_get irqL_len t.all k i _ (h.get hk) hi]
   rw [e1]
   rcases (by omega:i=0∨i=1∨i=2∨i=3) with rfl | rfl | rfl | rfl <;> rfl
  ·rw [Array.getElem?_eq_none (by rw [Array.size_extract,List.size_toArray,hlen];omega),Array.getElem?_eq_none (by simp;omega)])
 replace hA:=Hd hA;clear h hlen
 go_enter func314,ntmps314
 go_wp2_with (refine wpList_loadAgg rfl 216 (.tmp 10) rfl hl rfl ?_)
 go_loopw [12,4,5,3] (fun iv _ _ lv wr=>∃ k:Nat,iv=.int .i64 k∧k≤16∧Hid (IntsAt wr (New w) lv (irqTo t k))∧Hid (Below w.heap.size w wr)) (fun iv _ _ _ _=>16 - (intOf iv).toNat)
 case atStart=>exact ⟨0,rfl,Nat.zero_le _,Hd (show IntsAt w (New w) _ [] from IntsAt.nil _ _),Hd (Below.refl _ _)⟩
 case round =>
  clear hl;obtain ⟨k,rfl,hk,HL,HB⟩:=hrel;have hz:=HB.out.size
  by_cases hlt:k < 16
  ·have ix:=fun W=>hix.out k W hlt
   have hle:(irqTo t k).length≤1099511627776:=by have:=irqTo_len t k;omega
   generalize hx:t.all.getD k noIrq=x at *
   have hxw:Hid (x.wanted=(t.all.getD k noIrq).wanted):=Hd (by rw [hx])
   clear hx;obtain ⟨x0,x1,x2,x3⟩:=x;dsimp only at ix hxw
   cases x0 with
   | false =>
    have HH:=Hd (irqTo_no (t:=t) (k:=k) hxw.out.symm)
    go_wp2;go_roundw
    case rel=>exact ⟨k+1,by go_num,hlt,Hd (by rw [HH.out];exact HL.out.ch (by exact (by (repeat (first | with_reducible exact Ch.refl _ _ | (with_reducible refine Ch.alloc ?_ _) | (with_reducible refine Ch.drew ?_) | (with_reducible refine Ch.drewN ?_ _) | (refine Ch.setCell ?_ (fun h=>absurd h (by simp)) _))))) (fun _ _ h=>h)),Hd (HB.out.trans (Below.mono (Ch.isBelow (by exact (by (repeat (first | with_reducible exact Ch.refl _ _ | (with_reducible refine Ch.alloc ?_ _) | (with_reducible refine Ch.drew ?_) | (with_reducible refine Ch.drewN ?_ _) | (refine Ch.setCell ?_ (fun h=>absurd h (by simp)) _)))))) hz))⟩
    case measure=>simp [intOf];omega
   | true =>
    have HH:=Hd (irqTo_yes (t:=t) (k:=k) hxw.out.symm)
    go_wp2_with (at_builtin;refine wpList_app1 (n:=(k:Int)) rfl _ _ rfl (IntsAt.same HL.out ?_) (by rfl) (by rfl) ?_ hle ?_)
    ·exact (by (repeat (first | with_reducible exact Ch.refl _ _ | (with_reducible refine Ch.alloc ?_ _) | (with_reducible refine Ch.drew ?_) | (with_reducible refine Ch.drewN ?_ _) | (refine Ch.setCell ?_ (fun h=>absurd h (by simp)) _))))
    ·exact cell_at1 _ _ (by simp)
    ·intro v' w1 h1 hc1
     replace h1:=Hd (h1.mono (New.plus (w:=w) (by simp;omega)))
     replace hc1:=Hd (New.below HB.out ((show Ch (New w) wr _ from (by (repeat (first | with_reducible exact Ch.refl _ _ | (with_reducible refine Ch.alloc ?_ _) | (with_reducible refine Ch.drew ?_) | (with_reducible refine Ch.drewN ?_ _) | (refine Ch.setCell ?_ (fun h=>absurd h (by simp)) _))))).trans hc1))
     clear HL HB;go_wp2;go_roundw
     case rel=>exact ⟨k+1,by go_num,hlt,Hd (by rw [HH.out];exact h1.out),hc1⟩
     case measure=>simp [intOf];omega
  ·have:k=16:=by omega
   subst this;go_wp2;go_returns
   exact ⟨⟨_,rfl,HL.out⟩,HB.out⟩
def irqs0 (cpus:Nat):Irqs:=⟨List.replicate 16 noIrq,uptoF cpus⟩
theorem inew_any (w:World) (cpus:Nat) (h1:1≤cpus) (h64:cpus≤64):Calls prog 56 #[.int .i64 cpus] w fun e w'=>(∃ p,e=.returned (.tuple #[.pointer (some ⟨p,0,none⟩),.int .i64 0])∧IrqsAt w' (Plus w w' (fun _=>False)) p (irqs0 cpus))∧Below w.heap.size w w':=by
 have A:=Hd (upto_any cpus w)
 have hu:=Hd (uptoF_lt (cpus:Int))
 unfold irqs0;generalize uptoF (cpus:Int)=m at *
 go_enter func56,ntmps56
 go_wp2_with fail;refine A.out.mono ?_;rintro e w1 ⟨rfl,rfl⟩;go_wp2;go_returns
 refine ⟨⟨w.heap.size,rfl,Blk.at _ _ rfl,.inr ⟨Nat.le_refl _,by simp⟩,by simp,hu.out,fun x hx=>?_⟩,(Below.refl _ _).alloc (Nat.le_refl _) _⟩
 have:=List.eq_of_mem_replicate hx
 subst this
 decide
section
structure K where
 th:Threads
 qs:Runq
 tm:Timers
 iq:Irqs
 rt:Route
 wk:Works
 cl:Box
 ob:Stash
 ct:List Int
 gt:Gate
 st:Stop
 dk:Desk
 co:List Core
 gv:List (Int × Int)
 cpus:Nat
 online:Nat
 active:Nat
 now:Int
 limit:Int
 own:List (Int × Int)
def kCells (pt:Nat→Nat) (gvv:Value) (om:Nat) (cpus online active:Nat) (now limit:Int):Array Value:=#[.pointer (some ⟨pt 0,0,none⟩),.pointer (some ⟨pt 1,0,none⟩),.pointer (some ⟨pt 2,0,none⟩),.pointer (some ⟨pt 3,0,none⟩),.pointer (some ⟨pt 4,0,none⟩),.pointer (some ⟨pt 5,0,none⟩),.pointer (some ⟨pt 6,0,none⟩),.pointer (some ⟨pt 7,0,none⟩),.pointer (some ⟨pt 8,0,none⟩),.pointer (some ⟨pt 9,0,none⟩),.pointer (some ⟨pt 10,0,none⟩),.pointer (some ⟨pt 11,0,none⟩),.pointer (some ⟨pt 12,0,none⟩),.pointer (some ⟨pt 13,0,none⟩),gvv,.int .i64 cpus,.int .u64 online,.int .u64 active,.int .i64 now,.int .i64 limit,.map (some om)]
theorem own_th:Ownable ThreadsAt:=⟨ThreadsAt.ch,ThreadsAt.mono⟩
theorem own_qs:Ownable RunqAt:=⟨RunqAt.ch,RunqAt.mono⟩
theorem own_tm:Ownable TimersAt:=⟨MultiAt.ch ownW,MultiAt.mono ownW⟩
theorem own_iq:Ownable IrqsAt:=⟨IrqsAt.ch,fun h hd _=>h.mono hd⟩
theorem own_rt:Ownable RouteAt:=⟨RouteAt.ch,fun h hd _=>h.mono hd⟩
theorem own_wk:Ownable WorksAt:=⟨MultiAt.ch ownF,MultiAt.mono ownF⟩
theorem own_cl:Ownable BoxAt:=⟨BoxAt.ch,BoxAt.mono⟩
theorem own_ob:Ownable StashAt:=⟨StashAt.ch,StashAt.mono⟩
theorem own_ct:Ownable SplitAt:=⟨SplitAt.ch,fun h hd _=>h.mono hd⟩
theorem own_gt:Ownable GateAt:=⟨GateAt.ch,fun h hd _=>h.mono hd⟩
theorem own_st:Ownable StopAt:=⟨StopAt.ch,fun h hd _=>h.mono hd⟩
theorem own_dk:Ownable DeskAt:=⟨DeskAt.ch,DeskAt.mono⟩
theorem own_co:Ownable CoresAt:=⟨CoresAt.ch,fun h hd _=>h.mono hd⟩
theorem own_mt:Ownable MeterAt:=⟨MeterAt.ch,fun h hd _=>h.mono hd⟩
structure KAtQ (w:World) (F:Nat→Prop) (p:Nat) (pt:Nat→Nat) (gvv:Value) (om:Nat) (gp c:Nat→Nat) (k:K):Prop where
 head:Blk w p (kCells pt gvv om k.cpus k.online k.active k.now k.limit) 104
 th:ThreadsAt w (Col F c 0) (pt 0) k.th
 qs:RunqAt w (Col F c 1) (pt 1) k.qs
 tm:TimersAt w (Col F c 2) (pt 2) k.tm
 iq:IrqsAt w (Col F c 3) (pt 3) k.iq
 rt:RouteAt w (Col F c 4) (pt 4) k.rt
 wk:WorksAt w (Col F c 5) (pt 5) k.wk
 cl:BoxAt w (Col F c 6) (pt 6) k.cl
 ob:StashAt w (Col F c 7) (pt 7) k.ob
 ct:SplitAt w (Col F c 8) (pt 8) k.ct
 gt:GateAt w (Col F c 9) (pt 9) k.gt
 st:StopAt w (Col F c 10) (pt 10) k.st
 dk:DeskAt w (Col F c 11) (pt 11) k.dk
 co:CoresAt w (Col F c 12) (pt 12) k.co
 mt:MeterAt w (Col F c 13) (pt 13) k.cpus
 row:RowAt w (Col F c 14) 47 1 gvv k.cpus (ptrL gp k.cpus)
 gs:Many GovAt w F c 20 gp (0,0) k.gv
 oma:IMapAt w om k.own
 fom:Col F c 15 om
 fp:Col F c 16 p
 lt:∀ b,F b→b < w.heap.size
 tab:Tab w
 t2:¬ F 2
 n1:1≤k.cpus
 n64:k.cpus≤64
 on:k.online < top64
 ac:k.active < top64
 nw:0≤k.now∧k.now≤1152921504606846976
 gl:k.gv.length=k.cpus
structure KF where
 pt:Nat→Nat
 gv:Value
 om:Nat
 gp:Nat→Nat
def KAt (w:World) (F:Nat→Prop) (p:Nat) (f:KF) (k:K):Prop:=∃ c,KAtQ w F p f.pt f.gv f.om f.gp c k
theorem KAtQ.at {f:KF} {c:Nat→Nat} {k:K} (h:KAtQ w F p f.pt f.gv f.om f.gp c k):KAt w F p f k:=⟨c,h⟩
theorem Tab.chg {G:Nat→Prop} (h:Tab w) (hc:Ch G w w') (hG:¬ G 2):Tab w':=fun j hj=>keepch hc (h j hj) hG
theorem KAtQ.ch {F G:Nat→Prop} {pt:Nat→Nat} {gvv:Value} {om:Nat} {gp c:Nat→Nat} {k:K} (h:KAtQ w F p pt gvv om gp c k) (hc:Ch G w w') (hd:∀ b,F b→¬ G b) (h2:¬ G 2):KAtQ w' F p pt gvv om gp c k :=
 ⟨h.head.ch hc (hd _ h.fp.1),own_th.ch h.th hc (fun b hb=>hd b hb.1),own_qs.ch h.qs hc (fun b hb=>hd b hb.1),own_tm.ch h.tm hc (fun b hb=>hd b hb.1),own_iq.ch h.iq hc (fun b hb=>hd b hb.1),own_rt.ch h.rt hc (fun b hb=>hd b hb.1),own_wk.ch h.wk hc (fun b hb=>hd b hb.1),own_cl.ch h.cl hc (fun b hb=>hd b hb.1),own_ob.ch h.ob hc (fun b hb=>hd b hb.1),own_ct.ch h.ct hc (fun b hb=>hd b hb.1),own_gt.ch h.gt hc (fun b hb=>hd b hb.1),own_st.ch h.st hc (fun b hb=>hd b hb.1),own_dk.ch h.dk hc (fun b hb=>hd b hb.1),own_co.ch h.co hc (fun b hb=>hd b hb.1),h.mt.ch hc (fun b hb=>hd b hb.1),h.row.ch hc (fun b hb=>hd b hb.1),h.gs.ch ownG hc hd,h.oma.ch hc (hd _ h.fom.1),h.fom,h.fp,fun b hb=>Nat.lt_of_lt_of_le (h.lt b hb) hc.size,h.tab.chg hc h2,h.t2,h.n1,h.n64,h.on,h.ac,h.nw,h.gl⟩
theorem KAtQ.mono {F G:Nat→Prop} {pt:Nat→Nat} {gvv:Value} {om:Nat} {gp c:Nat→Nat} {k:K} (h:KAtQ w F p pt gvv om gp c k) (hd:∀ b,F b→G b) (hG:∀ b,G b→b < w.heap.size) (h2:¬ G 2):KAtQ w G p pt gvv om gp c k :=
 ⟨h.head,own_th.mono h.th (fun b hb=>⟨hd b hb.1,hb.2⟩) (fun b hb=>hG b hb.1),own_qs.mono h.qs (fun b hb=>⟨hd b hb.1,hb.2⟩) (fun b hb=>hG b hb.1),own_tm.mono h.tm (fun b hb=>⟨hd b hb.1,hb.2⟩) (fun b hb=>hG b hb.1),own_iq.mono h.iq (fun b hb=>⟨hd b hb.1,hb.2⟩) (fun b hb=>hG b hb.1),own_rt.mono h.rt (fun b hb=>⟨hd b hb.1,hb.2⟩) (fun b hb=>hG b hb.1),own_wk.mono h.wk (fun b hb=>⟨hd b hb.1,hb.2⟩) (fun b hb=>hG b hb.1),own_cl.mono h.cl (fun b hb=>⟨hd b hb.1,hb.2⟩) (fun b hb=>hG b hb.1),own_ob.mono h.ob (fun b hb=>⟨hd b hb.1,hb.2⟩) (fun b hb=>hG b hb.1),own_ct.mono h.ct (fun b hb=>⟨hd b hb.1,hb.2⟩) (fun b hb=>hG b hb.1),own_gt.mono h.gt (fun b hb=>⟨hd b hb.1,hb.2⟩) (fun b hb=>hG b hb.1),own_st.mono h.st (fun b hb=>⟨hd b hb.1,hb.2⟩) (fun b hb=>hG b hb.1),own_dk.mono h.dk (fun b hb=>⟨hd b hb.1,hb.2⟩) (fun b hb=>hG b hb.1),own_co.mono h.co (fun b hb=>⟨hd b hb.1,hb.2⟩) (fun b hb=>hG b hb.1),h.mt.mono (fun b hb=>⟨hd b hb.1,hb.2⟩),h.row.mono (fun b hb=>⟨hd b hb.1,hb.2⟩),h.gs.mono ownG hd hG,h.oma,⟨hd _ h.fom.1,h.fom.2⟩,⟨hd _ h.fp.1,h.fp.2⟩,hG,h.tab,h2,h.n1,h.n64,h.on,h.ac,h.nw,h.gl⟩
section
variable {w w' : World} {F : Nat → Prop} {p : Nat} {pt : Nat → Nat} {gvv : Value} {om : Nat} {gp c : Nat → Nat} {k : K} {i : Nat}
theorem KAtQ.p2 (h:KAtQ w F p pt gvv om gp c k):¬ Plus w w' F 2:=fun e=>e.elim h.t2 (fun e=>by have:=h.tab.two;omega)
theorem KAtQ.n_th (h:KAtQ w F p pt gvv om gp c k) (hc:Ch (Col F c i) w w') (hi:0≠i):ThreadsAt w' (Col (Plus w w' F) (recol w c i) 0) (pt 0) k.th:=own_th.mono (own_th.ch h.th hc (Col.apart hi)) (Col.old h.lt) (fun b hb=>Plus.lt h.lt hc.size b hb.1)
theorem KAtQ.m_th (h:KAtQ w F p pt gvv om gp c k) (hc:Ch (Col F c i) w w') (hi:0≠i):ThreadsAt w' (Col F c 0) (pt 0) k.th:=own_th.ch h.th hc (Col.apart hi)
theorem KAtQ.n_qs (h:KAtQ w F p pt gvv om gp c k) (hc:Ch (Col F c i) w w') (hi:1≠i):RunqAt w' (Col (Plus w w' F) (recol w c i) 1) (pt 1) k.qs:=own_qs.mono (own_qs.ch h.qs hc (Col.apart hi)) (Col.old h.lt) (fun b hb=>Plus.lt h.lt hc.size b hb.1)
theorem KAtQ.m_qs (h:KAtQ w F p pt gvv om gp c k) (hc:Ch (Col F c i) w w') (hi:1≠i):RunqAt w' (Col F c 1) (pt 1) k.qs:=own_qs.ch h.qs hc (Col.apart hi)
theorem KAtQ.n_tm (h:KAtQ w F p pt gvv om gp c k) (hc:Ch (Col F c i) w w') (hi:2≠i):TimersAt w' (Col (Plus w w' F) (recol w c i) 2) (pt 2) k.tm:=own_tm.mono (own_tm.ch h.tm hc (Col.apart hi)) (Col.old h.lt) (fun b hb=>Plus.lt h.lt hc.size b hb.1)
theorem KAtQ.m_tm (h:KAtQ w F p pt gvv om gp c k) (hc:Ch (Col F c i) w w') (hi:2≠i):TimersAt w' (Col F c 2) (pt 2) k.tm:=own_tm.ch h.tm hc (Col.apart hi)
theorem KAtQ.n_iq (h:KAtQ w F p pt gvv om gp c k) (hc:Ch (Col F c i) w w') (hi:3≠i):IrqsAt w' (Col (Plus w w' F) (recol w c i) 3) (pt 3) k.iq:=own_iq.mono (own_iq.ch h.iq hc (Col.apart hi)) (Col.old h.lt) (fun b hb=>Plus.lt h.lt hc.size b hb.1)
theorem KAtQ.m_iq (h:KAtQ w F p pt gvv om gp c k) (hc:Ch (Col F c i) w w') (hi:3≠i):IrqsAt w' (Col F c 3) (pt 3) k.iq:=own_iq.ch h.iq hc (Col.apart hi)
theorem KAtQ.n_rt (h:KAtQ w F p pt gvv om gp c k) (hc:Ch (Col F c i) w w') (hi:4≠i):RouteAt w' (Col (Plus w w' F) (recol w c i) 4) (pt 4) k.rt:=own_rt.mono (own_rt.ch h.rt hc (Col.apart hi)) (Col.old h.lt) (fun b hb=>Plus.lt h.lt hc.size b hb.1)
theorem KAtQ.m_rt (h:KAtQ w F p pt gvv om gp c k) (hc:Ch (Col F c i) w w') (hi:4≠i):RouteAt w' (Col F c 4) (pt 4) k.rt:=own_rt.ch h.rt hc (Col.apart hi)
theorem KAtQ.n_wk (h:KAtQ w F p pt gvv om gp c k) (hc:Ch (Col F c i) w w') (hi:5≠i):WorksAt w' (Col (Plus w w' F) (recol w c i) 5) (pt 5) k.wk:=own_wk.mono (own_wk.ch h.wk hc (Col.apart hi)) (Col.old h.lt) (fun b hb=>Plus.lt h.lt hc.size b hb.1)
theorem KAtQ.m_wk (h:KAtQ w F p pt gvv om gp c k) (hc:Ch (Col F c i) w w') (hi:5≠i):WorksAt w' (Col F c 5) (pt 5) k.wk:=own_wk.ch h.wk hc (Col.apart hi)
theorem KAtQ.n_cl (h:KAtQ w F p pt gvv om gp c k) (hc:Ch (Col F c i) w w') (hi:6≠i):BoxAt w' (Col (Plus w w' F) (recol w c i) 6) (pt 6) k.cl:=own_cl.mono (own_cl.ch h.cl hc (Col.apart hi)) (Col.old h.lt) (fun b hb=>Plus.lt h.lt hc.size b hb.1)
theorem KAtQ.m_cl (h:KAtQ w F p pt gvv om gp c k) (hc:Ch (Col F c i) w w') (hi:6≠i):BoxAt w' (Col F c 6) (pt 6) k.cl:=own_cl.ch h.cl hc (Col.apart hi)
theorem KAtQ.n_ob (h:KAtQ w F p pt gvv om gp c k) (hc:Ch (Col F c i) w w') (hi:7≠i):StashAt w' (Col (Plus w w' F) (recol w c i) 7) (pt 7) k.ob:=own_ob.mono (own_ob.ch h.ob hc (Col.apart hi)) (Col.old h.lt) (fun b hb=>Plus.lt h.lt hc.size b hb.1)
theorem KAtQ.m_ob (h:KAtQ w F p pt gvv om gp c k) (hc:Ch (Col F c i) w w') (hi:7≠i):StashAt w' (Col F c 7) (pt 7) k.ob:=own_ob.ch h.ob hc (Col.apart hi)
theorem KAtQ.n_ct (h:KAtQ w F p pt gvv om gp c k) (hc:Ch (Col F c i) w w') (hi:8≠i):SplitAt w' (Col (Plus w w' F) (recol w c i) 8) (pt 8) k.ct:=own_ct.mono (own_ct.ch h.ct hc (Col.apart hi)) (Col.old h.lt) (fun b hb=>Plus.lt h.lt hc.size b hb.1)
theorem KAtQ.m_ct (h:KAtQ w F p pt gvv om gp c k) (hc:Ch (Col F c i) w w') (hi:8≠i):SplitAt w' (Col F c 8) (pt 8) k.ct:=own_ct.ch h.ct hc (Col.apart hi)
theorem KAtQ.n_gt (h:KAtQ w F p pt gvv om gp c k) (hc:Ch (Col F c i) w w') (hi:9≠i):GateAt w' (Col (Plus w w' F) (recol w c i) 9) (pt 9) k.gt:=own_gt.mono (own_gt.ch h.gt hc (Col.apart hi)) (Col.old h.lt) (fun b hb=>Plus.lt h.lt hc.size b hb.1)
theorem KAtQ.m_gt (h:KAtQ w F p pt gvv om gp c k) (hc:Ch (Col F c i) w w') (hi:9≠i):GateAt w' (Col F c 9) (pt 9) k.gt:=own_gt.ch h.gt hc (Col.apart hi)
theorem KAtQ.n_st (h:KAtQ w F p pt gvv om gp c k) (hc:Ch (Col F c i) w w') (hi:10≠i):StopAt w' (Col (Plus w w' F) (recol w c i) 10) (pt 10) k.st:=own_st.mono (own_st.ch h.st hc (Col.apart hi)) (Col.old h.lt) (fun b hb=>Plus.lt h.lt hc.size b hb.1)
theorem KAtQ.m_st (h:KAtQ w F p pt gvv om gp c k) (hc:Ch (Col F c i) w w') (hi:10≠i):StopAt w' (Col F c 10) (pt 10) k.st:=own_st.ch h.st hc (Col.apart hi)
theorem KAtQ.n_dk (h:KAtQ w F p pt gvv om gp c k) (hc:Ch (Col F c i) w w') (hi:11≠i):DeskAt w' (Col (Plus w w' F) (recol w c i) 11) (pt 11) k.dk:=own_dk.mono (own_dk.ch h.dk hc (Col.apart hi)) (Col.old h.lt) (fun b hb=>Plus.lt h.lt hc.size b hb.1)
theorem KAtQ.m_dk (h:KAtQ w F p pt gvv om gp c k) (hc:Ch (Col F c i) w w') (hi:11≠i):DeskAt w' (Col F c 11) (pt 11) k.dk:=own_dk.ch h.dk hc (Col.apart hi)
theorem KAtQ.n_co (h:KAtQ w F p pt gvv om gp c k) (hc:Ch (Col F c i) w w') (hi:12≠i):CoresAt w' (Col (Plus w w' F) (recol w c i) 12) (pt 12) k.co:=own_co.mono (own_co.ch h.co hc (Col.apart hi)) (Col.old h.lt) (fun b hb=>Plus.lt h.lt hc.size b hb.1)
theorem KAtQ.m_co (h:KAtQ w F p pt gvv om gp c k) (hc:Ch (Col F c i) w w') (hi:12≠i):CoresAt w' (Col F c 12) (pt 12) k.co:=own_co.ch h.co hc (Col.apart hi)
theorem KAtQ.n_mt (h:KAtQ w F p pt gvv om gp c k) (hc:Ch (Col F c i) w w') (hi:13≠i):MeterAt w' (Col (Plus w w' F) (recol w c i) 13) (pt 13) k.cpus:=own_mt.mono (own_mt.ch h.mt hc (Col.apart hi)) (Col.old h.lt) (fun b hb=>Plus.lt h.lt hc.size b hb.1)
theorem KAtQ.m_mt (h:KAtQ w F p pt gvv om gp c k) (hc:Ch (Col F c i) w w') (hi:13≠i):MeterAt w' (Col F c 13) (pt 13) k.cpus:=own_mt.ch h.mt hc (Col.apart hi)
theorem KAtQ.t_th (h:KAtQ w F p pt gvv om gp c k) {x:Threads} (hx:ThreadsAt w' (Plus w w' (Col F c 0)) (pt 0) x) (hc:Ch (Col F c 0) w w'):KAtQ w' (Plus w w' F) p pt gvv om gp (recol w c 0) { k with th:=x } :=
 ⟨h.head.ch hc (Col.apart (by omega) _ h.fp),own_th.mono hx (Col.new h.lt) (fun b hb=>Plus.lt h.lt hc.size b hb.1),h.n_qs hc (by omega),h.n_tm hc (by omega),h.n_iq hc (by omega),h.n_rt hc (by omega),h.n_wk hc (by omega),h.n_cl hc (by omega),h.n_ob hc (by omega),h.n_ct hc (by omega),h.n_gt hc (by omega),h.n_st hc (by omega),h.n_dk hc (by omega),h.n_co hc (by omega),h.n_mt hc (by omega),(h.row.ch hc (Col.apart (by omega))).mono (Col.old h.lt),h.gs.other ownG h.lt (by omega) hc,h.oma.ch hc (Col.apart (by omega) _ h.fom),Col.old h.lt _ h.fom,Col.old h.lt _ h.fp,Plus.lt h.lt hc.size,h.tab.chg hc (fun e=>h.t2 e.1),h.p2,h.n1,h.n64,h.on,h.ac,h.nw,h.gl⟩
theorem KAtQ.t_qs (h:KAtQ w F p pt gvv om gp c k) {x:Runq} (hx:RunqAt w' (Plus w w' (Col F c 1)) (pt 1) x) (hc:Ch (Col F c 1) w w'):KAtQ w' (Plus w w' F) p pt gvv om gp (recol w c 1) { k with qs:=x } :=
 ⟨h.head.ch hc (Col.apart (by omega) _ h.fp),h.n_th hc (by omega),own_qs.mono hx (Col.new h.lt) (fun b hb=>Plus.lt h.lt hc.size b hb.1),h.n_tm hc (by omega),h.n_iq hc (by omega),h.n_rt hc (by omega),h.n_wk hc (by omega),h.n_cl hc (by omega),h.n_ob hc (by omega),h.n_ct hc (by omega),h.n_gt hc (by omega),h.n_st hc (by omega),h.n_dk hc (by omega),h.n_co hc (by omega),h.n_mt hc (by omega),(h.row.ch hc (Col.apart (by omega))).mono (Col.old h.lt),h.gs.other ownG h.lt (by omega) hc,h.oma.ch hc (Col.apart (by omega) _ h.fom),Col.old h.lt _ h.fom,Col.old h.lt _ h.fp,Plus.lt h.lt hc.size,h.tab.chg hc (fun e=>h.t2 e.1),h.p2,h.n1,h.n64,h.on,h.ac,h.nw,h.gl⟩
theorem KAtQ.t_tm (h:KAtQ w F p pt gvv om gp c k) {x:Timers} (hx:TimersAt w' (Plus w w' (Col F c 2)) (pt 2) x) (hc:Ch (Col F c 2) w w'):KAtQ w' (Plus w w' F) p pt gvv om gp (recol w c 2) { k with tm:=x } :=
 ⟨h.head.ch hc (Col.apart (by omega) _ h.fp),h.n_th hc (by omega),h.n_qs hc (by omega),own_tm.mono hx (Col.new h.lt) (fun b hb=>Plus.lt h.lt hc.size b hb.1),h.n_iq hc (by omega),h.n_rt hc (by omega),h.n_wk hc (by omega),h.n_cl hc (by omega),h.n_ob hc (by omega),h.n_ct hc (by omega),h.n_gt hc (by omega),h.n_st hc (by omega),h.n_dk hc (by omega),h.n_co hc (by omega),h.n_mt hc (by omega),(h.row.ch hc (Col.apart (by omega))).mono (Col.old h.lt),h.gs.other ownG h.lt (by omega) hc,h.oma.ch hc (Col.apart (by omega) _ h.fom),Col.old h.lt _ h.fom,Col.old h.lt _ h.fp,Plus.lt h.lt hc.size,h.tab.chg hc (fun e=>h.t2 e.1),h.p2,h.n1,h.n64,h.on,h.ac,h.nw,h.gl⟩
theorem KAtQ.t_iq (h:KAtQ w F p pt gvv om gp c k) {x:Irqs} (hx:IrqsAt w' (Plus w w' (Col F c 3)) (pt 3) x) (hc:Ch (Col F c 3) w w'):KAtQ w' (Plus w w' F) p pt gvv om gp (recol w c 3) { k with iq:=x } :=
 ⟨h.head.ch hc (Col.apart (by omega) _ h.fp),h.n_th hc (by omega),h.n_qs hc (by omega),h.n_tm hc (by omega),own_iq.mono hx (Col.new h.lt) (fun b hb=>Plus.lt h.lt hc.size b hb.1),h.n_rt hc (by omega),h.n_wk hc (by omega),h.n_cl hc (by omega),h.n_ob hc (by omega),h.n_ct hc (by omega),h.n_gt hc (by omega),h.n_st hc (by omega),h.n_dk hc (by omega),h.n_co hc (by omega),h.n_mt hc (by omega),(h.row.ch hc (Col.apart (by omega))).mono (Col.old h.lt),h.gs.other ownG h.lt (by omega) hc,h.oma.ch hc (Col.apart (by omega) _ h.fom),Col.old h.lt _ h.fom,Col.old h.lt _ h.fp,Plus.lt h.lt hc.size,h.tab.chg hc (fun e=>h.t2 e.1),h.p2,h.n1,h.n64,h.on,h.ac,h.nw,h.gl⟩
theorem KAtQ.t_rt (h:KAtQ w F p pt gvv om gp c k) {x:Route} (hx:RouteAt w' (Plus w w' (Col F c 4)) (pt 4) x) (hc:Ch (Col F c 4) w w'):KAtQ w' (Plus w w' F) p pt gvv om gp (recol w c 4) { k with rt:=x } :=
 ⟨h.head.ch hc (Col.apart (by omega) _ h.fp),h.n_th hc (by omega),h.n_qs hc (by omega),h.n_tm hc (by omega),h.n_iq hc (by omega),own_rt.mono hx (Col.new h.lt) (fun b hb=>Plus.lt h.lt hc.size b hb.1),h.n_wk hc (by omega),h.n_cl hc (by omega),h.n_ob hc (by omega),h.n_ct hc (by omega),h.n_gt hc (by omega),h.n_st hc (by omega),h.n_dk hc (by omega),h.n_co hc (by omega),h.n_mt hc (by omega),(h.row.ch hc (Col.apart (by omega))).mono (Col.old h.lt),h.gs.other ownG h.lt (by omega) hc,h.oma.ch hc (Col.apart (by omega) _ h.fom),Col.old h.lt _ h.fom,Col.old h.lt _ h.fp,Plus.lt h.lt hc.size,h.tab.chg hc (fun e=>h.t2 e.1),h.p2,h.n1,h.n64,h.on,h.ac,h.nw,h.gl⟩
theorem KAtQ.t_wk (h:KAtQ w F p pt gvv om gp c k) {x:Works} (hx:WorksAt w' (Plus w w' (Col F c 5)) (pt 5) x) (hc:Ch (Col F c 5) w w'):KAtQ w' (Plus w w' F) p pt gvv om gp (recol w c 5) { k with wk:=x } :=
 ⟨h.head.ch hc (Col.apart (by omega) _ h.fp),h.n_th hc (by omega),h.n_qs hc (by omega),h.n_tm hc (by omega),h.n_iq hc (by omega),h.n_rt hc (by omega),own_wk.mono hx (Col.new h.lt) (fun b hb=>Plus.lt h.lt hc.size b hb.1),h.n_cl hc (by omega),h.n_ob hc (by omega),h.n_ct hc (by omega),h.n_gt hc (by omega),h.n_st hc (by omega),h.n_dk hc (by omega),h.n_co hc (by omega),h.n_mt hc (by omega),(h.row.ch hc (Col.apart (by omega))).mono (Col.old h.lt),h.gs.other ownG h.lt (by omega) hc,h.oma.ch hc (Col.apart (by omega) _ h.fom),Col.old h.lt _ h.fom,Col.old h.lt _ h.fp,Plus.lt h.lt hc.size,h.tab.chg hc (fun e=>h.t2 e.1),h.p2,h.n1,h.n64,h.on,h.ac,h.nw,h.gl⟩
theorem KAtQ.t_cl (h:KAtQ w F p pt gvv om gp c k) {x:Box} (hx:BoxAt w' (Plus w w' (Col F c 6)) (pt 6) x) (hc:Ch (Col F c 6) w w'):KAtQ w' (Plus w w' F) p pt gvv om gp (recol w c 6) { k with cl:=x } :=
 ⟨h.head.ch hc (Col.apart (by omega) _ h.fp),h.n_th hc (by omega),h.n_qs hc (by omega),h.n_tm hc (by omega),h.n_iq hc (by omega),h.n_rt hc (by omega),h.n_wk hc (by omega),own_cl.mono hx (Col.new h.lt) (fun b hb=>Plus.lt h.lt hc.size b hb.1),h.n_ob hc (by omega),h.n_ct hc (by omega),h.n_gt hc (by omega),h.n_st hc (by omega),h.n_dk hc (by omega),h.n_co hc (by omega),h.n_mt hc (by omega),(h.row.ch hc (Col.apart (by omega))).mono (Col.old h.lt),h.gs.other ownG h.lt (by omega) hc,h.oma.ch hc (Col.apart (by omega) _ h.fom),Col.old h.lt _ h.fom,Col.old h.lt _ h.fp,Plus.lt h.lt hc.size,h.tab.chg hc (fun e=>h.t2 e.1),h.p2,h.n1,h.n64,h.on,h.ac,h.nw,h.gl⟩
theorem KAtQ.t_ob (h:KAtQ w F p pt gvv om gp c k) {x:Stash} (hx:StashAt w' (Plus w w' (Col F c 7)) (pt 7) x) (hc:Ch (Col F c 7) w w'):KAtQ w' (Plus w w' F) p pt gvv om gp (recol w c 7) { k with ob:=x } :=
 ⟨h.head.ch hc (Col.apart (by omega) _ h.fp),h.n_th hc (by omega),h.n_qs hc (by omega),h.n_tm hc (by omega),h.n_iq hc (by omega),h.n_rt hc (by omega),h.n_wk hc (by omega),h.n_cl hc (by omega),own_ob.mono hx (Col.new h.lt) (fun b hb=>Plus.lt h.lt hc.size b hb.1),h.n_ct hc (by omega),h.n_gt hc (by omega),h.n_st hc (by omega),h.n_dk hc (by omega),h.n_co hc (by omega),h.n_mt hc (by omega),(h.row.ch hc (Col.apart (by omega))).mono (Col.old h.lt),h.gs.other ownG h.lt (by omega) hc,h.oma.ch hc (Col.apart (by omega) _ h.fom),Col.old h.lt _ h.fom,Col.old h.lt _ h.fp,Plus.lt h.lt hc.size,h.tab.chg hc (fun e=>h.t2 e.1),h.p2,h.n1,h.n64,h.on,h.ac,h.nw,h.gl⟩
theorem KAtQ.t_ct (h:KAtQ w F p pt gvv om gp c k) {x:List Int} (hx:SplitAt w' (Plus w w' (Col F c 8)) (pt 8) x) (hc:Ch (Col F c 8) w w'):KAtQ w' (Plus w w' F) p pt gvv om gp (recol w c 8) { k with ct:=x } :=
 ⟨h.head.ch hc (Col.apart (by omega) _ h.fp),h.n_th hc (by omega),h.n_qs hc (by omega),h.n_tm hc (by omega),h.n_iq hc (by omega),h.n_rt hc (by omega),h.n_wk hc (by omega),h.n_cl hc (by omega),h.n_ob hc (by omega),own_ct.mono hx (Col.new h.lt) (fun b hb=>Plus.lt h.lt hc.size b hb.1),h.n_gt hc (by omega),h.n_st hc (by omega),h.n_dk hc (by omega),h.n_co hc (by omega),h.n_mt hc (by omega),(h.row.ch hc (Col.apart (by omega))).mono (Col.old h.lt),h.gs.other ownG h.lt (by omega) hc,h.oma.ch hc (Col.apart (by omega) _ h.fom),Col.old h.lt _ h.fom,Col.old h.lt _ h.fp,Plus.lt h.lt hc.size,h.tab.chg hc (fun e=>h.t2 e.1),h.p2,h.n1,h.n64,h.on,h.ac,h.nw,h.gl⟩
theorem KAtQ.t_gt (h:KAtQ w F p pt gvv om gp c k) {x:Gate} (hx:GateAt w' (Plus w w' (Col F c 9)) (pt 9) x) (hc:Ch (Col F c 9) w w'):KAtQ w' (Plus w w' F) p pt gvv om gp (recol w c 9) { k with gt:=x } :=
 ⟨h.head.ch hc (Col.apart (by omega) _ h.fp),h.n_th hc (by omega),h.n_qs hc (by omega),h.n_tm hc (by omega),h.n_iq hc (by omega),h.n_rt hc (by omega),h.n_wk hc (by omega),h.n_cl hc (by omega),h.n_ob hc (by omega),h.n_ct hc (by omega),own_gt.mono hx (Col.new h.lt) (fun b hb=>Plus.lt h.lt hc.size b hb.1),h.n_st hc (by omega),h.n_dk hc (by omega),h.n_co hc (by omega),h.n_mt hc (by omega),(h.row.ch hc (Col.apart (by omega))).mono (Col.old h.lt),h.gs.other ownG h.lt (by omega) hc,h.oma.ch hc (Col.apart (by omega) _ h.fom),Col.old h.lt _ h.fom,Col.old h.lt _ h.fp,Plus.lt h.lt hc.size,h.tab.chg hc (fun e=>h.t2 e.1),h.p2,h.n1,h.n64,h.on,h.ac,h.nw,h.gl⟩
theorem KAtQ.t_st (h:KAtQ w F p pt gvv om gp c k) {x:Stop} (hx:StopAt w' (Plus w w' (Col F c 10)) (pt 10) x) (hc:Ch (Col F c 10) w w'):KAtQ w' (Plus w w' F) p pt gvv om gp (recol w c 10) { k with st:=x } :=
 ⟨h.head.ch hc (Col.apart (by omega) _ h.fp),h.n_th hc (by omega),h.n_qs hc (by omega),h.n_tm hc (by omega),h.n_iq hc (by omega),h.n_rt hc (by omega),h.n_wk hc (by omega),h.n_cl hc (by omega),h.n_ob hc (by omega),h.n_ct hc (by omega),h.n_gt hc (by omega),own_st.mono hx (Col.new h.lt) (fun b hb=>Plus.lt h.lt hc.size b hb.1),h.n_dk hc (by omega),h.n_co hc (by omega),h.n_mt hc (by omega),(h.row.ch hc (Col.apart (by omega))).mono (Col.old h.lt),h.gs.other ownG h.lt (by omega) hc,h.oma.ch hc (Col.apart (by omega) _ h.fom),Col.old h.lt _ h.fom,Col.old h.lt _ h.fp,Plus.lt h.lt hc.size,h.tab.chg hc (fun e=>h.t2 e.1),h.p2,h.n1,h.n64,h.on,h.ac,h.nw,h.gl⟩
theorem KAtQ.t_dk (h:KAtQ w F p pt gvv om gp c k) {x:Desk} (hx:DeskAt w' (Plus w w' (Col F c 11)) (pt 11) x) (hc:Ch (Col F c 11) w w'):KAtQ w' (Plus w w' F) p pt gvv om gp (recol w c 11) { k with dk:=x } :=
 ⟨h.head.ch hc (Col.apart (by omega) _ h.fp),h.n_th hc (by omega),h.n_qs hc (by omega),h.n_tm hc (by omega),h.n_iq hc (by omega),h.n_rt hc (by omega),h.n_wk hc (by omega),h.n_cl hc (by omega),h.n_ob hc (by omega),h.n_ct hc (by omega),h.n_gt hc (by omega),h.n_st hc (by omega),own_dk.mono hx (Col.new h.lt) (fun b hb=>Plus.lt h.lt hc.size b hb.1),h.n_co hc (by omega),h.n_mt hc (by omega),(h.row.ch hc (Col.apart (by omega))).mono (Col.old h.lt),h.gs.other ownG h.lt (by omega) hc,h.oma.ch hc (Col.apart (by omega) _ h.fom),Col.old h.lt _ h.fom,Col.old h.lt _ h.fp,Plus.lt h.lt hc.size,h.tab.chg hc (fun e=>h.t2 e.1),h.p2,h.n1,h.n64,h.on,h.ac,h.nw,h.gl⟩
theorem KAtQ.t_co (h:KAtQ w F p pt gvv om gp c k) {x:List Core} (hx:CoresAt w' (Plus w w' (Col F c 12)) (pt 12) x) (hc:Ch (Col F c 12) w w'):KAtQ w' (Plus w w' F) p pt gvv om gp (recol w c 12) { k with co:=x } :=
 ⟨h.head.ch hc (Col.apart (by omega) _ h.fp),h.n_th hc (by omega),h.n_qs hc (by omega),h.n_tm hc (by omega),h.n_iq hc (by omega),h.n_rt hc (by omega),h.n_wk hc (by omega),h.n_cl hc (by omega),h.n_ob hc (by omega),h.n_ct hc (by omega),h.n_gt hc (by omega),h.n_st hc (by omega),h.n_dk hc (by omega),own_co.mono hx (Col.new h.lt) (fun b hb=>Plus.lt h.lt hc.size b hb.1),h.n_mt hc (by omega),(h.row.ch hc (Col.apart (by omega))).mono (Col.old h.lt),h.gs.other ownG h.lt (by omega) hc,h.oma.ch hc (Col.apart (by omega) _ h.fom),Col.old h.lt _ h.fom,Col.old h.lt _ h.fp,Plus.lt h.lt hc.size,h.tab.chg hc (fun e=>h.t2 e.1),h.p2,h.n1,h.n64,h.on,h.ac,h.nw,h.gl⟩
theorem KAtQ.t_mt (h:KAtQ w F p pt gvv om gp c k) (hx:MeterAt w' (Plus w w' (Col F c 13)) (pt 13) k.cpus) (hc:Ch (Col F c 13) w w'):KAtQ w' (Plus w w' F) p pt gvv om gp (recol w c 13) k :=
 ⟨h.head.ch hc (Col.apart (by omega) _ h.fp),h.n_th hc (by omega),h.n_qs hc (by omega),h.n_tm hc (by omega),h.n_iq hc (by omega),h.n_rt hc (by omega),h.n_wk hc (by omega),h.n_cl hc (by omega),h.n_ob hc (by omega),h.n_ct hc (by omega),h.n_gt hc (by omega),h.n_st hc (by omega),h.n_dk hc (by omega),h.n_co hc (by omega),own_mt.mono hx (Col.new h.lt) (fun b hb=>Plus.lt h.lt hc.size b hb.1),(h.row.ch hc (Col.apart (by omega))).mono (Col.old h.lt),h.gs.other ownG h.lt (by omega) hc,h.oma.ch hc (Col.apart (by omega) _ h.fom),Col.old h.lt _ h.fom,Col.old h.lt _ h.fp,Plus.lt h.lt hc.size,h.tab.chg hc (fun e=>h.t2 e.1),h.p2,h.n1,h.n64,h.on,h.ac,h.nw,h.gl⟩
theorem KAtQ.t_gs (h:KAtQ w F p pt gvv om gp c k) {i:Nat} (hi:i < k.gv.length) {s:Int × Int} (hx:GovAt w' (Plus w w' (Col F c (20+i))) (gp i) s) (hc:Ch (Col F c (20+i)) w w'):KAtQ w' (Plus w w' F) p pt gvv om gp (recol w c (20+i)) { k with gv:=k.gv.set i s } :=
 ⟨h.head.ch hc (Col.apart (by omega) _ h.fp),h.n_th hc (by omega),h.n_qs hc (by omega),h.n_tm hc (by omega),h.n_iq hc (by omega),h.n_rt hc (by omega),h.n_wk hc (by omega),h.n_cl hc (by omega),h.n_ob hc (by omega),h.n_ct hc (by omega),h.n_gt hc (by omega),h.n_st hc (by omega),h.n_dk hc (by omega),h.n_co hc (by omega),h.n_mt hc (by omega),(h.row.ch hc (Col.apart (by omega))).mono (Col.old h.lt),h.gs.turn ownG h.lt hi hx hc,h.oma.ch hc (Col.apart (by omega) _ h.fom),Col.old h.lt _ h.fom,Col.old h.lt _ h.fp,Plus.lt h.lt hc.size,h.tab.chg hc (fun e=>h.t2 e.1),h.p2,h.n1,h.n64,h.on,h.ac,h.nw,by simpa using h.gl⟩
theorem KAtQ.below (h:KAtQ w F p pt gvv om gp c k) (hb:Below w.heap.size w w'):KAtQ w' F p pt gvv om gp c k:=h.ch (Ch.off hb) (fun _ _ h=>h) (fun h=>h)
theorem KAtQ.c_on (h:KAtQ w F p pt gvv om gp c k):w.cell? ⟨p,16,none⟩=some (.int .u64 k.online):=h.head.cell 16
theorem KAtQ.c_ac (h:KAtQ w F p pt gvv om gp c k):w.cell? ⟨p,17,none⟩=some (.int .u64 k.active):=h.head.cell 17
theorem KAtQ.c_cp (h:KAtQ w F p pt gvv om gp c k):w.cell? ⟨p,15,none⟩=some (.int .i64 k.cpus):=h.head.cell 15
theorem KAtQ.c_nw (h:KAtQ w F p pt gvv om gp c k):w.cell? ⟨p,18,none⟩=some (.int .i64 k.now):=h.head.cell 18
theorem KAtQ.c_li (h:KAtQ w F p pt gvv om gp c k):w.cell? ⟨p,19,none⟩=some (.int .i64 k.limit):=h.head.cell 19
theorem KAtQ.c_om (h:KAtQ w F p pt gvv om gp c k):w.cell? ⟨p,20,none⟩=some (.map (some om)):=h.head.cell 20
theorem KAtQ.c_gv (h:KAtQ w F p pt gvv om gp c k):w.cell? ⟨p,14,none⟩=some gvv:=h.head.cell 14
theorem KAtQ.c0 (h:KAtQ w F p pt gvv om gp c k):w.cell? ⟨p,0,none⟩=some (.pointer (some ⟨pt 0,0,none⟩)):=h.head.cell 0
theorem KAtQ.c1 (h:KAtQ w F p pt gvv om gp c k):w.cell? ⟨p,1,none⟩=some (.pointer (some ⟨pt 1,0,none⟩)):=h.head.cell 1
theorem KAtQ.c2 (h:KAtQ w F p pt gvv om gp c k):w.cell? ⟨p,2,none⟩=some (.pointer (some ⟨pt 2,0,none⟩)):=h.head.cell 2
theorem KAtQ.c3 (h:KAtQ w F p pt gvv om gp c k):w.cell? ⟨p,3,none⟩=some (.pointer (some ⟨pt 3,0,none⟩)):=h.head.cell 3
theorem KAtQ.c4 (h:KAtQ w F p pt gvv om gp c k):w.cell? ⟨p,4,none⟩=some (.pointer (some ⟨pt 4,0,none⟩)):=h.head.cell 4
theorem KAtQ.c5 (h:KAtQ w F p pt gvv om gp c k):w.cell? ⟨p,5,none⟩=some (.pointer (some ⟨pt 5,0,none⟩)):=h.head.cell 5
theorem KAtQ.c6 (h:KAtQ w F p pt gvv om gp c k):w.cell? ⟨p,6,none⟩=some (.pointer (some ⟨pt 6,0,none⟩)):=h.head.cell 6
theorem KAtQ.c7 (h:KAtQ w F p pt gvv om gp c k):w.cell? ⟨p,7,none⟩=some (.pointer (some ⟨pt 7,0,none⟩)):=h.head.cell 7
theorem KAtQ.c8 (h:KAtQ w F p pt gvv om gp c k):w.cell? ⟨p,8,none⟩=some (.pointer (some ⟨pt 8,0,none⟩)):=h.head.cell 8
theorem KAtQ.c9 (h:KAtQ w F p pt gvv om gp c k):w.cell? ⟨p,9,none⟩=some (.pointer (some ⟨pt 9,0,none⟩)):=h.head.cell 9
theorem KAtQ.c10 (h:KAtQ w F p pt gvv om gp c k):w.cell? ⟨p,10,none⟩=some (.pointer (some ⟨pt 10,0,none⟩)):=h.head.cell 10
theorem KAtQ.c11 (h:KAtQ w F p pt gvv om gp c k):w.cell? ⟨p,11,none⟩=some (.pointer (some ⟨pt 11,0,none⟩)):=h.head.cell 11
theorem KAtQ.c12 (h:KAtQ w F p pt gvv om gp c k):w.cell? ⟨p,12,none⟩=some (.pointer (some ⟨pt 12,0,none⟩)):=h.head.cell 12
theorem KAtQ.c13 (h:KAtQ w F p pt gvv om gp c k):w.cell? ⟨p,13,none⟩=some (.pointer (some ⟨pt 13,0,none⟩)):=h.head.cell 13
theorem KAtQ.s_online (h:KAtQ w F p pt gvv om gp c k) (v:Nat) (hv:v < top64):KAtQ (w.setCell ⟨p,16,none⟩ (.int .u64 (v:Nat))) F p pt gvv om gp c { k with online:=v }:=by
 have hc:Ch (Col F c 16) w (w.setCell ⟨p,16,none⟩ (.int .u64 (v:Nat))):=(Ch.refl _ w).setCell (p:=⟨p,16,none⟩) (fun _=>h.fp) _
 exact ⟨h.head.set 16 _,h.m_th hc (by omega),h.m_qs hc (by omega),h.m_tm hc (by omega),h.m_iq hc (by omega),h.m_rt hc (by omega),h.m_wk hc (by omega),h.m_cl hc (by omega),h.m_ob hc (by omega),h.m_ct hc (by omega),h.m_gt hc (by omega),h.m_st hc (by omega),h.m_dk hc (by omega),h.m_co hc (by omega),h.m_mt hc (by omega),h.row.ch hc (Col.apart (by omega)),h.gs.ch' ownG hc (fun i hi=>Col.apart (by omega)),h.oma.ch hc (Col.apart (by omega) _ h.fom),h.fom,h.fp,fun b hb=>by simpa using h.lt b hb,h.tab.chg hc (fun e=>h.t2 e.1),h.t2,h.n1,h.n64,hv,h.ac,h.nw,h.gl⟩
theorem KAtQ.s_active (h:KAtQ w F p pt gvv om gp c k) (v:Nat) (hv:v < top64):KAtQ (w.setCell ⟨p,17,none⟩ (.int .u64 (v:Nat))) F p pt gvv om gp c { k with active:=v }:=by
 have hc:Ch (Col F c 16) w (w.setCell ⟨p,17,none⟩ (.int .u64 (v:Nat))):=(Ch.refl _ w).setCell (p:=⟨p,17,none⟩) (fun _=>h.fp) _
 exact ⟨h.head.set 17 _,h.m_th hc (by omega),h.m_qs hc (by omega),h.m_tm hc (by omega),h.m_iq hc (by omega),h.m_rt hc (by omega),h.m_wk hc (by omega),h.m_cl hc (by omega),h.m_ob hc (by omega),h.m_ct hc (by omega),h.m_gt hc (by omega),h.m_st hc (by omega),h.m_dk hc (by omega),h.m_co hc (by omega),h.m_mt hc (by omega),h.row.ch hc (Col.apart (by omega)),h.gs.ch' ownG hc (fun i hi=>Col.apart (by omega)),h.oma.ch hc (Col.apart (by omega) _ h.fom),h.fom,h.fp,fun b hb=>by simpa using h.lt b hb,h.tab.chg hc (fun e=>h.t2 e.1),h.t2,h.n1,h.n64,h.on,hv,h.nw,h.gl⟩
theorem KAtQ.s_now (h:KAtQ w F p pt gvv om gp c k) (v:Int) (hv:0≤v∧v≤1152921504606846976):KAtQ (w.setCell ⟨p,18,none⟩ (.int .i64 v)) F p pt gvv om gp c { k with now:=v }:=by
 have hc:Ch (Col F c 16) w (w.setCell ⟨p,18,none⟩ (.int .i64 v)):=(Ch.refl _ w).setCell (p:=⟨p,18,none⟩) (fun _=>h.fp) _
 exact ⟨h.head.set 18 _,h.m_th hc (by omega),h.m_qs hc (by omega),h.m_tm hc (by omega),h.m_iq hc (by omega),h.m_rt hc (by omega),h.m_wk hc (by omega),h.m_cl hc (by omega),h.m_ob hc (by omega),h.m_ct hc (by omega),h.m_gt hc (by omega),h.m_st hc (by omega),h.m_dk hc (by omega),h.m_co hc (by omega),h.m_mt hc (by omega),h.row.ch hc (Col.apart (by omega)),h.gs.ch' ownG hc (fun i hi=>Col.apart (by omega)),h.oma.ch hc (Col.apart (by omega) _ h.fom),h.fom,h.fp,fun b hb=>by simpa using h.lt b hb,h.tab.chg hc (fun e=>h.t2 e.1),h.t2,h.n1,h.n64,h.on,h.ac,hv,h.gl⟩
theorem KAtQ.s_limit (h:KAtQ w F p pt gvv om gp c k) (v:Int):KAtQ (w.setCell ⟨p,19,none⟩ (.int .i64 v)) F p pt gvv om gp c { k with limit:=v }:=by
 have hc:Ch (Col F c 16) w (w.setCell ⟨p,19,none⟩ (.int .i64 v)):=(Ch.refl _ w).setCell (p:=⟨p,19,none⟩) (fun _=>h.fp) _
 exact ⟨h.head.set 19 _,h.m_th hc (by omega),h.m_qs hc (by omega),h.m_tm hc (by omega),h.m_iq hc (by omega),h.m_rt hc (by omega),h.m_wk hc (by omega),h.m_cl hc (by omega),h.m_ob hc (by omega),h.m_ct hc (by omega),h.m_gt hc (by omega),h.m_st hc (by omega),h.m_dk hc (by omega),h.m_co hc (by omega),h.m_mt hc (by omega),h.row.ch hc (Col.apart (by omega)),h.gs.ch' ownG hc (fun i hi=>Col.apart (by omega)),h.oma.ch hc (Col.apart (by omega) _ h.fom),h.fom,h.fp,fun b hb=>by simpa using h.lt b hb,h.tab.chg hc (fun e=>h.t2 e.1),h.t2,h.n1,h.n64,h.on,h.ac,h.nw,h.gl⟩
theorem KAtQ.o_put (h:KAtQ w F p pt gvv om gp c k) (d v:Int):KAtQ (mapPut w om d (.int .i64 v)) F p pt gvv om gp c { k with own:=mput k.own d v }:=by
 have hc:Ch (Col F c 15) w (mapPut w om d (.int .i64 v)):=(Ch.refl _ w).mapPut (fun _=>h.fom) d _
 exact ⟨h.head.ch hc (Col.apart (by omega) _ h.fp),h.m_th hc (by omega),h.m_qs hc (by omega),h.m_tm hc (by omega),h.m_iq hc (by omega),h.m_rt hc (by omega),h.m_wk hc (by omega),h.m_cl hc (by omega),h.m_ob hc (by omega),h.m_ct hc (by omega),h.m_gt hc (by omega),h.m_st hc (by omega),h.m_dk hc (by omega),h.m_co hc (by omega),h.m_mt hc (by omega),h.row.ch hc (Col.apart (by omega)),h.gs.ch' ownG hc (fun i hi=>Col.apart (by omega)),h.oma.put d v,h.fom,h.fp,fun b hb=>by simpa using h.lt b hb,h.tab.chg hc (fun e=>h.t2 e.1),h.t2,h.n1,h.n64,h.on,h.ac,h.nw,h.gl⟩
theorem KAtQ.o_del (h:KAtQ w F p pt gvv om gp c k) (d:Int):KAtQ (mapDel w om d) F p pt gvv om gp c { k with own:=mdel k.own d }:=by
 have hc:Ch (Col F c 15) w (mapDel w om d):=(Ch.refl _ w).mapDel (fun _=>h.fom) d
 exact ⟨h.head.ch hc (Col.apart (by omega) _ h.fp),h.m_th hc (by omega),h.m_qs hc (by omega),h.m_tm hc (by omega),h.m_iq hc (by omega),h.m_rt hc (by omega),h.m_wk hc (by omega),h.m_cl hc (by omega),h.m_ob hc (by omega),h.m_ct hc (by omega),h.m_gt hc (by omega),h.m_st hc (by omega),h.m_dk hc (by omega),h.m_co hc (by omega),h.m_mt hc (by omega),h.row.ch hc (Col.apart (by omega)),h.gs.ch' ownG hc (fun i hi=>Col.apart (by omega)),h.oma.del d,h.fom,h.fp,fun b hb=>by simpa using h.lt b hb,h.tab.chg hc (fun e=>h.t2 e.1),h.t2,h.n1,h.n64,h.on,h.ac,h.nw,h.gl⟩
end
end
end Go.Proofs.YtiocbpabbjgkhaaGreatDoor
