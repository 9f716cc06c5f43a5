/- Part 7 of the proof: contracts and plain laws, each under the conditions that it names. -/
import Derived.Test.YtiocbpabbjgkhaaGreatDoorPow06
import Derived.RangeFuncNested
import Derived.RangeFuncBound
import Derived.RangeFuncCalls
import Derived.RangeFuncLeaves
import Derived.Shelf.Abstract
import Derived.Shelf.RegionOpen
import Derived.OwnWalkIn
import Derived.TacticsInMore
import Derived.LoopNIn
import Derived.LoopIn
import Derived.Deep.Upon
set_option maxRecDepth 100000
set_option maxHeartbeats 20000000
set_option linter.unusedVariables false
set_option linter.unusedSimpArgs false
namespace Go.Proofs.YtiocbpabbjgkhaaGreatDoor
open Go.RowKit Go.Proofs.Tryz
variable {w w' : World} {F : Nat → Prop} {p : Nat}
section
section
open Go.MapKept
variable {P : Program} {w : World} {T K E : TypeId}
theorem run_look_nil (hT:P.underlying T=some (.map K E)) (hK:P.underlying K=some (.int .i64)) (z:Value) (hz:(zeroValue E).run P w=.ok z w) (k:Int) (ok:Bool) :
  (Instr.lookup T (.map none) (.int .i64 k) ok).run P w=.ok (if ok then .tuple #[z,.bool false] else z) w:=by
 have hf:Instr.findNow (.int .i64) (.int .i64 k) [] 0=some none:=rfl
 have hfk:=run_findKey (P:=P) (w:=w) hK hf
 have hck:=run_checkKey (P:=P) (w:=w) (k:=.int .i64 k) hK rfl true 9999
 cases ok <;> simp [Instr.lookup,run_underlying hT,Result.andThen,hck,hfk,hz]
end
theorem DeskAt.both {d:Desk} (h:DeskAt w F p d) (hc:Ch (fun _=>False) w w'):DeskAt w' F p d∧Ch F w w':=⟨h.ch hc (fun _ _ h=>h),hc.mono (fun _ _ h=>h.elim)⟩
structure Step where
 stage:Int
 undo:Bool
 fails:Bool
def deskFails (d:Desk):Bool :=
 match d.req with
 | .none=>false
 | .some r=>!r.run.back && !r.told && ((d.planned.getD []) |> fun m=>(mget m (runAt r.run)).getD false)
def deskNext (d:Desk):Desk × Step × Int :=
 match d.req with
 | .none=>(d,⟨0,false,false⟩,12)
 | .some r=>if runOver r.run then (d,⟨0,false,false⟩,6) else
  if deskFails d then (⟨.some ⟨(runFail r.run).1,r.up,r.cpu,r.who,true⟩,d.planned.map (fun m=>mdel m (runAt r.run))⟩,⟨runAt r.run,r.run.back,true⟩,0)
  else (⟨.some ⟨r.run,r.up,r.cpu,r.who,true⟩,d.planned⟩,⟨runAt r.run,r.run.back,false⟩,0)
theorem DeskAtQ.told {p rp sp:Nat} {mv:Value} {c:Nat→Nat} {d:Desk} (h:DeskAtQ w F p (.pointer (.some ⟨rp,0,.none⟩)) mv c d) {run:Run} {up told:Bool} {cpu who:Int} (hB:Blk w rp (reqCells sp ⟨run,up,cpu,who,told⟩) 190) (hR:RunAt w (Col F c 2) sp run) (hrp:Col F c 1 rp) (hpl:PlanAt w F c mv d.planned) (n:Nat) (o o2:Obj) (a b e:Value) :
  DeskAt ((((((((w.alloc o).drewN n).alloc o2).setCell ⟨rp,4,.none⟩ (.bool true)).setCell ⟨w.heap.size,0,.none⟩ a).setCell ⟨w.heap.size,1,.none⟩ b).setCell ⟨w.heap.size,2,.none⟩ e)) F p ⟨.some ⟨run,up,cpu,who,true⟩,d.planned⟩∧Ch F w (((((((w.alloc o).drewN n).alloc o2).setCell ⟨rp,4,.none⟩ (.bool true)).setCell ⟨w.heap.size,0,.none⟩ a).setCell ⟨w.heap.size,1,.none⟩ b).setCell ⟨w.heap.size,2,.none⟩ e):=by
 have hc:Ch (Col F c 1) w (((((((w.alloc o).drewN n).alloc o2).setCell ⟨rp,4,.none⟩ (.bool true)).setCell ⟨w.heap.size,0,.none⟩ a).setCell ⟨w.heap.size,1,.none⟩ b).setCell ⟨w.heap.size,2,.none⟩ e) :=
  ((((((((Ch.refl _ w).alloc o).drewN n).alloc o2).setCell (p:=⟨rp,4,.none⟩) (fun _=>hrp) _).setCell (p:=⟨w.heap.size,0,.none⟩) (fun h=>absurd h (Nat.lt_irrefl _)) _).setCell (p:=⟨w.heap.size,1,.none⟩) (fun h=>absurd h (Nat.lt_irrefl _)) _).setCell (p:=⟨w.heap.size,2,.none⟩) (fun h=>absurd h (Nat.lt_irrefl _)) _)
 have hlt:=hB.lt
 refine ⟨h.turn hrp ?_ (hR.ch hc (Col.apart (by omega))) (hpl.ch hc (Col.apart (by omega))) (hc.mono (fun b _ hb=>⟨hb.1,by have:=hb.2;omega⟩)),Col.ch hc⟩
 have h1:Blk ((((w.alloc o).drewN n).alloc o2).setCell ⟨rp,4,.none⟩ (.bool true)) rp (reqCells sp ⟨run,up,cpu,who,true⟩) 190:=(((hB.alloc o).drewN n).alloc o2).set 4 _
 exact ((h1.far (fun e=>by simp at e;omega) a).far (fun e=>by simp at e;omega) b).far (fun e=>by simp at e;omega) e
theorem dnext_any (w:World) {d:Desk} (h:DeskAt w F p d):Calls prog 191 #[.pointer (some ⟨p,0,none⟩)] w fun e w'=>e=.returned (.tuple #[.agg #[.int .i64 (deskNext d).2.1.stage,.bool (deskNext d).2.1.undo,.bool (deskNext d).2.1.fails],.int .i64 (deskNext d).2.2])∧DeskAt w' F p (deskNext d).1∧Ch F w w':=by
 have HT0:=Hd h
 have HT:=fun o=>Hd (h.below ((Below.refl w.heap.size w).alloc (Nat.le_refl _) o))
 have A:=fun o=>Hd (dmay_any (w.alloc o) (HT o).out)
 obtain ⟨rv,mv,c,h⟩:=h;unfold deskNext;unfold deskMay at A
 cases hd:d.req with
 | none =>
  rw [hd] at A;clear h hd
  go_enter func191,ntmps191
  go_wp2_with fail;refine (A _).out.mono ?_;rintro e w1 ⟨rfl,n,rfl⟩;go_wp2
  refine bodyPost_ret (v:=.tuple #[.agg #[.int .i64 0,.bool false,.bool false],.int .i64 12]) (by simp [results,results191,go_sem]) rfl ⟨rfl,?_⟩
  refine HT0.out.both ?_
  exact (by (repeat (first | with_reducible exact Ch.refl _ _ | (with_reducible refine Ch.alloc ?_ _) | (with_reducible refine Ch.drew ?_) | (with_reducible refine Ch.drewN ?_ _) | (refine Ch.setCell ?_ (fun h=>absurd h (by simp)) _))))
 | some r =>
  obtain ⟨rp,sp,rfl,c0,hb,hrp,hr⟩:=h.some hd
  rw [hd] at A;dsimp only at A ⊢;generalize ho:runOver r.run=o at *
  cases o with
  | true =>
   clear h hd hb hr
   go_enter func191,ntmps191
   go_wp2_with fail;refine (A _).out.mono ?_;rintro e w1 ⟨rfl,n,rfl⟩;go_wp2
   refine bodyPost_ret (v:=.tuple #[.agg #[.int .i64 0,.bool false,.bool false],.int .i64 6]) (by simp [results,results191,go_sem]) rfl ⟨rfl,?_⟩
   refine HT0.out.both ?_
   exact (by (repeat (first | with_reducible exact Ch.refl _ _ | (with_reducible refine Ch.alloc ?_ _) | (with_reducible refine Ch.drew ?_) | (with_reducible refine Ch.drewN ?_ _) | (refine Ch.setCell ?_ (fun h=>absurd h (by simp)) _))))
  | false =>
   have B:=fun o n=>Hd (rat_any ((w.alloc o).drewN n) (hr.below (Ch.isBelow (((Ch.refl _ w).alloc o).drewN n))))
   obtain ⟨b,hbv⟩:∃ b,b=(mget (d.planned.getD []) (runAt r.run)).getD false:=⟨_,rfl⟩
   have hl:∀ o n,(Instr.lookup 144 mv (.int .i64 (runAt r.run)) false).run prog ((w.alloc o).drewN n)=.ok (.bool b) ((w.alloc o).drewN n):=by
    intro o n
    rw [hbv]
    have hz:(zeroValue 4).run prog ((w.alloc o).drewN n)=.ok (.bool false) ((w.alloc o).drewN n):=by kernel_rfl
    have hp:=h.plan
    cases hm:d.planned with
    | none =>
     rw [hm] at hp
     have hp':mv=.map none:=hp
     subst hp'
     have:=run_look_nil (P:=prog) (w:=(w.alloc o).drewN n) underlying144 underlying3 _ hz (runAt r.run) false
     exact this
    | some m =>
     rw [hm] at hp;obtain ⟨mb,rfl,hmap,hmb⟩:=hp
     have:=run_look (P:=prog) (hmap.ch (((Ch.refl (fun _=>False) w).alloc o).drewN n) (fun h=>h)) underlying144 underlying3 _ hz (runAt r.run) false
     rw [encB_get,if_neg (by decide)] at this;rw [this]
     simp only [Option.getD_some]
     cases mget m (runAt r.run) <;> rfl
   have hpl:=Hd h.plan
   have k0:∀ o,(w.alloc o).cell? ⟨rp,0,none⟩=some (.pointer (some ⟨sp,0,none⟩)):=fun o=>by rw [(hb.alloc o).cell];rfl
   have k4:∀ o,(w.alloc o).cell? ⟨rp,4,none⟩=some (.bool r.told):=fun o=>by rw [(hb.alloc o).cell];rfl
   have c0':∀ o,(w.alloc o).cell? ⟨p,0,none⟩=some (.pointer (some ⟨rp,0,none⟩)):=fun o=>by rw [(h.head.alloc o).cell];rfl
   have c1':∀ o,(w.alloc o).cell? ⟨p,1,none⟩=some mv:=fun o=>by rw [(h.head.alloc o).cell];rfl
   have hne:p≠rp:=fun e=>by subst e;have:=h.fp.2.symm.trans hrp.2;omega
   have H:=Hd h;have HD:=Hd hd;have hB:=Hd hb;have hR:=Hd hr
   have hfl:deskFails d=(!r.run.back && !r.told && b):=by unfold deskFails;rw [hd,hbv]
   rw [hfl];replace hbv:=Hd hbv;clear h hd hb hr c0 ho hfl;obtain ⟨run,up,cpu,who,told⟩:=r;obtain ⟨st,dn,back⟩:=run;dsimp only at *
   obtain ⟨i,hn⟩:∃ i,i=runAt ⟨st,dn,back⟩:=⟨_,rfl⟩
   rw [← hn] at B hl hbv ⊢;replace hn:=Hd hn
   have c0'':∀ o n o2,(((w.alloc o).drewN n).alloc o2).cell? ⟨p,0,none⟩=some (.pointer (some ⟨rp,0,none⟩)):=fun o n o2=>by rw [(((H.out.head.alloc o).drewN n).alloc o2).cell];rfl
   have c1'':∀ o n o2,(((w.alloc o).drewN n).alloc o2).cell? ⟨p,1,none⟩=some mv:=fun o n o2=>by rw [(((H.out.head.alloc o).drewN n).alloc o2).cell];rfl
   have k0'':∀ o n o2,(((w.alloc o).drewN n).alloc o2).cell? ⟨rp,0,none⟩=some (.pointer (some ⟨sp,0,none⟩)):=fun o n o2=>by rw [(((hB.out.alloc o).drewN n).alloc o2).cell];rfl
   have k4'':∀ o n o2,(((w.alloc o).drewN n).alloc o2).cell? ⟨rp,4,none⟩=some (.bool told):=fun o n o2=>by rw [(((hB.out.alloc o).drewN n).alloc o2).cell];rfl
   have f4'':∀ o n o2,(((w.alloc o).drewN n).alloc o2).frozen? ⟨rp,4,none⟩=false:=fun o n o2=>(((hB.out.alloc o).drewN n).alloc o2).frozen _
   cases hq:!back && !told && b with
   | false =>
    cases back
    all_goals cases told
    all_goals cases b
    all_goals first
     | (exfalso;revert hq;decide)
     | skip
    all_goals
     clear hq
     go_enter func191,ntmps191
     go_wp2_with fail;refine (A _).out.mono ?_;rintro e w1 ⟨rfl,n,rfl⟩;go_wp2_with fail;refine (B _ _).out.mono ?_;rintro e w1 ⟨rfl,m,rfl⟩;go_wp2
     refine bodyPost_ret (v:=.tuple #[.agg #[.int .i64 i,.bool _,.bool false],.int .i64 0]) (by simp [results,results191,go_sem]) rfl ⟨rfl,?_⟩
     exact H.out.told hB.out hR.out hrp hpl.out (n+m) _ _ _ _ _
   | true =>
    have hback:back=false:=by revert hq;cases back <;> simp
    have htold:told=false:=by revert hq;cases back <;> cases told <;> simp
    have hb:b=true:=by revert hq;cases back <;> cases told <;> simp
    subst hback;subst htold;subst hb;clear hq
    obtain ⟨ml,hml,mb,rfl,hmap,hmb⟩:∃ ml,d.planned=some ml∧∃ mb,mv=.map (some mb)∧MapAt w mb (encB ml)∧Col F c 3 mb:=by
     have h1:=hbv.out;have h2:=hpl.out
     cases hm:d.planned with
     | none=>rw [hm] at h1;simp [mget] at h1
     | some ml=>rw [hm] at h2;exact ⟨ml,rfl,h2⟩
    have hdel:∀ o n o2,(Builtin.delete_ #[144,3] 0 #[.map (some mb),.int .i64 i]).run prog (((w.alloc o).drewN n).alloc o2)=.ok (.tuple #[]) (mapDel (((w.alloc o).drewN n).alloc o2) mb i):=fun o n o2=>run_del (hmap.ch ((((Ch.refl (fun _=>False) w).alloc o).drewN n).alloc o2) (fun h=>h)) underlying144 underlying3 i 0 3
    have hne2:∀ b,Col F c 2 b→b≠mb:=fun b hb e=>by subst e;have:=hb.2.symm.trans hmb.2;omega
    have E:=fun o n o2=>Hd (rfail_any (mapDel (((w.alloc o).drewN n).alloc o2) mb i) (hR.out.ch (((((Ch.refl (fun b=>b=mb) w).alloc o).drewN n).alloc o2).mapDel (fun _=>rfl) i) hne2))
    have hM:=Hd hmap;clear hmap
    go_enter func191,ntmps191
    go_wp2_with fail;refine (A _).out.mono ?_;rintro e w1 ⟨rfl,n,rfl⟩;go_wp2_with fail;refine (B _ _).out.mono ?_;rintro e w1 ⟨rfl,m,rfl⟩;go_wp2_with fail;refine (E _ _ _).out.mono ?_;rintro e w3 ⟨rfl,h1,h2,h3⟩;have hlt1:=H.out.head.lt;have hlt2:=hB.out.lt;have hlt3:=hM.out.lt
    have hnew:∀ b,w.heap.size≤b→¬ (b=mb∨Col F c 2 b):=fun b hb e=>e.elim (fun e=>by omega) (fun e=>by have:=H.out.lt _ e.1;omega)
    have HW2:Ch (fun b=>b=mb∨Col F c 2 b) (((w.alloc (Obj.cells #[Value.int IntKind.i64 0,Value.bool false,Value.bool false] 297)).drewN (n+m)).alloc (Obj.cells #[Value.int IntKind.i64 i,Value.bool false,Value.bool true] 297)) w3:=((Ch.refl _ _).mapDel (fun _=>.inl rfl) i).then h2 (fun _ _ h=>.inr h)
    have HW:Ch (fun b=>b=mb∨Col F c 2 b) w w3:=((((Ch.refl _ w).alloc _).drewN _).alloc _).then HW2 (fun _ _ h=>h)
    have b1:Blk w3 w.heap.size #[Value.int IntKind.i64 0,Value.bool false,Value.bool false] 297:=(((Blk.new w _ _).drewN (n+m)).alloc (Obj.cells #[Value.int IntKind.i64 i,Value.bool false,Value.bool true] 297)).ch HW2 (hnew _ (Nat.le_refl _))
    have b2:Blk w3 (w.heap.size+1) #[Value.int IntKind.i64 i,Value.bool false,Value.bool true] 297:=(Blk.at (w:=(w.alloc (Obj.cells #[Value.int IntKind.i64 0,Value.bool false,Value.bool false] 297)).drewN (n+m)) _ _ (by simp)).ch HW2 (hnew _ (Nat.le_succ _))
    have b3:Blk w3 p #[.pointer (some ⟨rp,0,none⟩),.map (some mb)] 146:=H.out.head.ch HW (fun e=>e.elim (fun e=>by have:=(e ▸ hmb.2).symm.trans H.out.fp.2;omega) (fun e=>by have:=e.2.symm.trans H.out.fp.2;omega))
    have b4:Blk w3 rp (reqCells sp ⟨⟨st,dn,false⟩,up,cpu,who,false⟩) 190:=hB.out.ch HW (fun e=>e.elim (fun e=>by have:=(e ▸ hmb.2).symm.trans hrp.2;omega) (fun e=>by have:=e.2.symm.trans hrp.2;omega))
    have k10:w3.cell? ⟨w.heap.size,0,none⟩=some (.int .i64 0):=b1.cell 0
    have k11:w3.cell? ⟨w.heap.size,1,none⟩=some (.bool false):=b1.cell 1
    have k12:w3.cell? ⟨w.heap.size,2,none⟩=some (.bool false):=b1.cell 2
    have g10:w3.frozen? ⟨w.heap.size,0,none⟩=false:=b1.frozen 0
    have g11:w3.frozen? ⟨w.heap.size,1,none⟩=false:=b1.frozen 1
    have g12:w3.frozen? ⟨w.heap.size,2,none⟩=false:=b1.frozen 2
    have k20:w3.cell? ⟨w.heap.size+1,0,none⟩=some (.int .i64 i):=b2.cell 0
    have k21:w3.cell? ⟨w.heap.size+1,1,none⟩=some (.bool false):=b2.cell 1
    have k22:w3.cell? ⟨w.heap.size+1,2,none⟩=some (.bool true):=b2.cell 2
    have k30:w3.cell? ⟨p,0,none⟩=some (.pointer (some ⟨rp,0,none⟩)):=b3.cell 0
    have k44:w3.cell? ⟨rp,4,none⟩=some (.bool false):=b4.cell 4
    have g44:w3.frozen? ⟨rp,4,none⟩=false:=b4.frozen 4
    have hr1:rp≠w.heap.size:=by omega
    have hr2:rp≠w.heap.size+1:=by omega
    replace b4:=Hd b4;replace h1:=Hd h1;replace h2:=Hd h2;replace HW:=Hd HW
    have v0:∀ u,Blk (w3.setCell ⟨rp,4,none⟩ u) w.heap.size #[Value.int IntKind.i64 0,Value.bool false,Value.bool false] 297:=fun u=>b1.far (fun e=>by simp at e;omega) u
    have q0:∀ u a,((w3.setCell ⟨rp,4,none⟩ u).setCell ⟨w.heap.size,0,none⟩ a).cell? ⟨w.heap.size,0,none⟩=some a:=fun u a=>by rw [((v0 u).set 0 a).cell];rfl
    have q1:∀ u a e,(((w3.setCell ⟨rp,4,none⟩ u).setCell ⟨w.heap.size,0,none⟩ a).setCell ⟨w.heap.size,1,none⟩ e).cell? ⟨w.heap.size,1,none⟩=some e:=fun u a e=>by rw [(((v0 u).set 0 a).set 1 e).cell];rfl
    have q2:∀ u a e g,((((w3.setCell ⟨rp,4,none⟩ u).setCell ⟨w.heap.size,0,none⟩ a).setCell ⟨w.heap.size,1,none⟩ e).setCell ⟨w.heap.size,2,none⟩ g).cell? ⟨w.heap.size,2,none⟩=some g:=fun u a e g=>by rw [((((v0 u).set 0 a).set 1 e).set 2 g).cell];rfl
    clear HT A hl B k0 k4 c0' c1' c0'' c1'' k0'' k4'' f4'' hdel E h3 HW2 b1 b2 b3 hnew v0;go_wp2
    refine bodyPost_ret (v:=.tuple #[.agg #[.int .i64 i,.bool false,.bool true],.int .i64 0]) (by simp [results,results191,go_sem,q0,q1,q2]) rfl ⟨rfl,?_⟩
    have hc:Ch (fun b=>F b∧c b≠0) w ((((w3.setCell ⟨rp,4,none⟩ (.bool true)).setCell ⟨w.heap.size,0,none⟩ (.int .i64 i)).setCell ⟨w.heap.size,1,none⟩ (.bool false)).setCell ⟨w.heap.size,2,none⟩ (.bool true)) :=
     (((((HW.out.mono (fun b _ h=>(h.elim (fun e=>⟨e ▸ hmb.1,by rw [e,hmb.2];omega⟩) (fun e=>⟨e.1,by have:=e.2;omega⟩):F b∧c b≠0))).setCell (p:=⟨rp,4,.none⟩) (fun _=>⟨hrp.1,by have:=hrp.2;simp only;omega⟩) _).setCell (p:=⟨w.heap.size,0,.none⟩) (fun h=>absurd h (Nat.lt_irrefl _)) _).setCell (p:=⟨w.heap.size,1,.none⟩) (fun h=>absurd h (Nat.lt_irrefl _)) _).setCell (p:=⟨w.heap.size,2,.none⟩) (fun h=>absurd h (Nat.lt_irrefl _)) _)
    have hc3:Ch (fun b=>b=rp∨b=w.heap.size) w3 ((((w3.setCell ⟨rp,4,none⟩ (.bool true)).setCell ⟨w.heap.size,0,none⟩ (.int .i64 i)).setCell ⟨w.heap.size,1,none⟩ (.bool false)).setCell ⟨w.heap.size,2,none⟩ (.bool true)) :=
     (((((Ch.refl _ w3).setCell (p:=⟨rp,4,.none⟩) (fun _=>.inl rfl) _).setCell (p:=⟨w.heap.size,0,.none⟩) (fun _=>.inr rfl) _).setCell (p:=⟨w.heap.size,1,.none⟩) (fun _=>.inr rfl) _).setCell (p:=⟨w.heap.size,2,.none⟩) (fun _=>.inr rfl) _)
    refine ⟨H.out.turn (sp:=sp) hrp ?_ (h1.out.ch hc3 ?_) ⟨mb,rfl,?_,hmb⟩ hc,hc.mono (fun _ _ h=>h.1)⟩
    ·have z1:Blk (w3.setCell ⟨rp,4,none⟩ (.bool true)) rp (reqCells sp ⟨(runFail ⟨st,dn,false⟩).1,up,cpu,who,true⟩) 190:=b4.out.set 4 _
     exact ((z1.far (fun e=>by simp at e;omega) _).far (fun e=>by simp at e;omega) _).far (fun e=>by simp at e;omega) _
    ·exact fun b hb e=>e.elim (fun e=>by subst e;have:=hb.2.symm.trans hrp.2;omega) (fun e=>by have:=H.out.lt _ hb.1;omega)
    ·have z:=(hM.out.ch ((((Ch.refl (fun _=>False) w).alloc (Obj.cells #[Value.int IntKind.i64 0,Value.bool false,Value.bool false] 297)).drewN (n+m)).alloc (Obj.cells #[Value.int IntKind.i64 i,Value.bool false,Value.bool true] 297)) (fun h=>h)).del i
     rw [encB_del] at z
     exact (MapAt.ch z h2.out (fun e=>hne2 _ e rfl)).ch hc3 (fun e=>e.elim (fun e=>by subst e;have:=hrp.2.symm.trans hmb.2;omega) (fun e=>by omega))
end
section
open Go.Shelf
attribute [local go_sem] Oper.semAt_some
theorem down_any (F:Fence) (n:Nat) (h338:F.fn 338) (hro:F.round=none) (p:Nat) (w:World):CallsIn F n prog 338 #[.pointer (some ⟨p,0,none⟩)] w fun e w'=>e=.returned (.func (.func 356) #[] #[.pointer (some ⟨w.heap.size,0,none⟩)])∧w'=w.alloc (.cells #[.pointer (some ⟨p,0,none⟩)] 178):=by
 refine callsIn_of_wp func338 rfl h338 ?_ hro
 simp only [ntmps338,List.size_toArray,List.length_cons,List.length_nil,Nat.reduceAdd,Nat.reduceSub,Array.replicate_succ,Array.replicate_zero,List.push_toArray,List.append_toArray,List.nil_append,List.cons_append]
 gi_wp2
 go_ret
 exact ⟨rfl,rfl⟩
def downL (k:Nat):List (Fin 8):=([7,6,5,4,3,2,1,0]:List (Fin 8)).take k
theorem downL_snoc (k:Nat) (hk:k < 8):downL (k+1)=downL k++[⟨7 - k,by omega⟩]:=by
 rcases (by omega:k=0∨k=1∨k=2∨k=3∨k=4∨k=5∨k=6∨k=7) with rfl | rfl | rfl | rfl | rfl | rfl | rfl | rfl <;> rfl
theorem downL_len (k:Nat) (hk:k≤8):(downL k).length=k:=by simp [downL];omega
def KpB (n₀ B:Nat) (W W':World):Prop:=Below n₀ W W'∧W'.heap[B]? = W.heap[B]?
theorem kpB_t {n₀ B:Nat} {U V W:World} (h:KpB n₀ B U V) (k:KpB n₀ B V W):KpB n₀ B U W:=⟨h.1.trans k.1,k.2.trans h.2⟩
theorem down1_stops (F:Fence) (n:Nat) (h356:F.fn 356) (hro:F.round=none) (hn:1≤n) (B n₀ p:Nat) (ptrs:Nat→Nat) (w:World) (hB:w.heap[B]? = some (.cells #[.pointer (some ⟨p,0,none⟩)] 178 (0,0))) (hp:p < n₀) (hl:∀ i,i < 8→w.cell? ⟨p,i,none⟩=some (.pointer (some ⟨ptrs i,0,none⟩))) :
  SeqStopsK F n prog 356 #[.pointer (some ⟨B,0,none⟩)] (fun i:Fin 8=>#[.pointer (some ⟨ptrs i.1,0,none⟩)]) (KpB n₀ B) (fun xs=>xs=downL 8) (fun pre=>∃ k,k≤8∧pre=downL k) 8 w:=fun l J Jx W hW hJ hJx hY h0=>by
 refine callsIn_of_wp func356 rfl h356 ?_ hro
 simp only [ntmps356,List.size_toArray,List.length_cons,List.length_nil,Nat.reduceAdd,Nat.reduceSub,Array.replicate_succ,Array.replicate_zero,List.push_toArray,List.append_toArray,List.nil_append,List.cons_append]
 have hBW:W.heap[B]? = some (.cells #[.pointer (some ⟨p,0,none⟩)] 178 (0,0)):=(hW.block B (Array.getElem?_eq_some_iff.1 hB).1).trans hB
 have hlW:∀ i,i < 8→W.cell? ⟨p,i,none⟩=some (.pointer (some ⟨ptrs i,0,none⟩)):=fun i hi=>keepcell hW (hl i hi)
 clear hB hl hW hJ hJx
 gi_wp2
 gi_loopw [3] (fun iv wr=>∃ k:Nat,iv=.int .i64 (7 - (k:Int))∧k≤8∧J (downL k) wr∧wr.heap[B]? = some (.cells #[.pointer (some ⟨p,0,none⟩)] 178 (0,0))∧(∀ i,i < 8→wr.cell? ⟨p,i,none⟩=some (.pointer (some ⟨ptrs i,0,none⟩))))
  (fun iv _=>(intOf iv+1).toNat)
 case atStart =>
  exact ⟨0,rfl,by omega,h0,hBW,hlW⟩
 case round =>
  obtain ⟨k,rfl,hk,hJs,hb,hl⟩:=hrel
  by_cases h8:k=8
  ·subst h8
   gi_wp2
   go_end0
   exact ⟨⟨_,rfl⟩,.inl ⟨downL 8,rfl,hJs⟩⟩
  ·have hk8:k < 8:=by omega
   have cb:wr.cell? ⟨B,0,none⟩=some (.pointer (some ⟨p,0,none⟩)):=by
    have h1:Blk wr B #[.pointer (some ⟨p,0,none⟩)] 178:=hb
    exact h1.cell 0
   have cl:=hl (7 - k) (by omega)
   obtain ⟨fn,tmps,assign,body,hy,hR⟩:=hY (downL k) ⟨7 - k,by omega⟩ wr hJs (by rw [downL_len k hk];omega)
   dsimp only at hy
   have hge:(0:Int)≤7 - (k:Int):=by omega
   gi_wp2
   refine hR.mono ?_;rintro e W3 (⟨rfl,hJ3,hk3⟩ | ⟨rfl,hJx3⟩)
   ·rw [← downL_snoc k hk8] at hJ3
    gi_wp2
    go_roundw
    case rel=>exact ⟨k+1,by congr 1;omega,by omega,hJ3,hk3.2.trans hb,fun i hi=>(hk3.1.cell (p:=⟨p,i,none⟩) hp).trans (hl i hi)⟩
    case measure=>simp [intOf];omega
   ·rw [← downL_snoc k hk8] at hJx3
    gi_wp2
    refine bodyPost_ret (results_none rfl _ _ _) rfl ?_
    exact ⟨⟨_,rfl⟩,.inr ⟨downL (k+1),⟨k+1,by omega,rfl⟩,hJx3⟩⟩
theorem down_stops (F:Fence) (n:Nat) (h356:F.fn 356) (hro:F.round=none) (hn:1≤n) (B n₀ p:Nat) (ptrs:Nat→Nat) (w:World) (hB:w.heap[B]? = some (.cells #[.pointer (some ⟨p,0,none⟩)] 178 (0,0))) (hp:p < n₀) (hl:∀ i,i < 8→w.cell? ⟨p,i,none⟩=some (.pointer (some ⟨ptrs i,0,none⟩))) :
  SeqStopsK F n prog 356 #[.pointer (some ⟨B,0,none⟩)] (fun i:Fin 8=>#[.pointer (some ⟨ptrs i.1,0,none⟩)]) (KpB n₀ B) (fun xs=>xs=downL 8) (fun pre=>∃ k,k≤8∧pre=downL k) 8 w:=down1_stops F n h356 hro hn B n₀ p ptrs w hB hp hl
theorem kpB_b {n₀ B z:Nat} (hn:n₀≤z) (hB:B < z):∀ (W:World) (l:Nat) (o o':Obj),z≤l→W.heap[l]? = some o→o.isCells=false→o.isWalk=false→KpB n₀ B W (W.putObj l o'):=fun W l o o' hl ho h1 h2=>⟨(Below.refl n₀ W).grown (grownBy_putObj' W l o') (by have:=(Array.getElem?_eq_some_iff.1 ho).1;omega) (fun k e=>by cases e;omega),World.putObj_heap_other (by omega)⟩
def topF (lv:List (List Int)):Option (Fin 8):=(downL 8).find? (fun i=>lv.getD i.1 [] != [])
def topWhy:Option (Fin 8)→Int
 | none=>12
 | some _=>0
def topPtr (ptrs:Nat→Nat):Option (Fin 8)→Value
 | none=>.pointer none
 | some i=>.pointer (some ⟨ptrs i.1,0,none⟩)
theorem topF_none {lv:List (List Int)} (h:∀ y∈downL 8,lv.getD y.1 []=[]):topF lv=none:=by
 unfold topF;rw [List.find?_eq_none]
 intro x hx
 have:=h x hx
 simp only [List.getD_eq_getElem?_getD] at this
 simp [this]
theorem downL_split (k:Nat) (hk:k < 8):downL 8=downL k++(⟨7 - k,by omega⟩::(downL 8).drop (k+1)):=by
 rcases (by omega:k=0∨k=1∨k=2∨k=3∨k=4∨k=5∨k=6∨k=7) with rfl | rfl | rfl | rfl | rfl | rfl | rfl | rfl <;> rfl
theorem topF_some {lv:List (List Int)} {k:Nat} {pre:List (Fin 8)} {x:Fin 8} (hk:k≤8) (he:pre++[x]=downL k) (h:∀ y∈pre,lv.getD y.1 []=[]) (hx:lv.getD x.1 []≠[]):topF lv=some x:=by
 have hl:=congrArg List.length he
 rw [downL_len k hk] at hl
 simp at hl
 obtain ⟨m,rfl⟩:∃ m,k=m+1:=⟨pre.length,hl.symm⟩
 rw [downL_snoc m (by omega)] at he
 have h2:=List.append_inj he (by rw [downL_len m (by omega)];omega)
 obtain ⟨h2,h3⟩:=h2;subst h2
 have h4:x=⟨7 - m,by omega⟩:=by simpa using h3
 unfold topF
 rw [downL_split m (by omega),List.find?_append,List.find?_eq_none.2 (fun y hy=>by have:=h y hy;simp only [List.getD_eq_getElem?_getD] at this;simp [this])]
 subst h4;rw [Option.none_or,List.find?_cons_of_pos]
 simpa using hx
theorem ptop_in (F:Fence) (n:Nat) (hfn:∀ f,F.fn f) (hro:F.round=none) (hw:∀ m f args w R,Calls prog f args w R→CallsIn F m prog f args w R) (hn:3≤n) (w:World) {G:Nat→Prop} {p mb:Nat} {ptrs c:Nat→Nat} {q:Prio} (h:PrioAtQ w G p ptrs mb c q) :
  CallsIn F n prog 323 #[.pointer (some ⟨p,0,none⟩)] w fun e w'=>e=.returned (.tuple #[topPtr ptrs (topF q.lv),.int .i64 (topWhy (topF q.lv))])∧Below w.heap.size w w':=by
 have h1:1≤n:=by omega
 refine callsIn_of_wp_marks func323 rfl (hfn 323) ?_ hro
 simp only [ntmps323,List.size_toArray,List.length_cons,List.length_nil,Nat.reduceAdd,Nat.reduceSub,Array.replicate_succ,Array.replicate_zero,List.push_toArray,List.append_toArray,List.nil_append,List.cons_append]
 gi_wp2_with (gi_at_call 338;refine (down_any F (n - 1) (hfn 338) hro p _).mono ?_;rintro e w' ⟨rfl,rfl⟩)
 obtain ⟨W0,hW0⟩:∃ W0,((w.alloc (.cells #[.pointer none] 223)).alloc (.cells #[.int .i64 0] 24)).alloc (.cells #[.pointer (some ⟨p,0,none⟩)] 178)=W0:=⟨_,rfl⟩
 have hs0:W0.heap.size=w.heap.size+3:=by rw [← hW0];simp
 have b0:Blk W0 w.heap.size #[.pointer none] 223:=by rw [← hW0];exact ((Blk.new w _ _).alloc _).alloc _
 have b1:Blk W0 (w.heap.size+1) #[.int .i64 0] 24:=by rw [← hW0];exact (Blk.at (w:=w.alloc (.cells #[.pointer none] 223)) _ _ (by simp)).alloc _
 have b2:Blk W0 (w.heap.size+1+1) #[.pointer (some ⟨p,0,none⟩)] 178:=by rw [← hW0];exact Blk.at (w:=(w.alloc (.cells #[.pointer none] 223)).alloc (.cells #[.int .i64 0] 24)) _ _ (by simp)
 have hB0:Below w.heap.size w W0:=by rw [← hW0];exact (((Below.refl _ w).alloc (Nat.le_refl _) _).alloc (by simp) _).alloc (by simp;omega) _
 rw [hW0];have hlt:=h.head.lt
 refine wpIn_rangeFunc_ownF hro h1 (gf:=356) (lb:=#[.pointer (some ⟨w.heap.size+1+1,0,none⟩)]) rfl (hfn 356) (enters_of func356 (by kernel_rfl) rfl)
  (down_stops F (n - 1) (hfn 356) hro (by omega) (w.heap.size+1+1) w.heap.size p ptrs W0 b2 hlt (fun i hi=>keepcell hB0 (h.level i hi))) kpB_t (kpB_b (by omega) (by omega)) (Below.refl _ _) (fun _=>rfl)
  (fun pre W=>((∀ y∈pre,q.lv.getD y.1 []=[])∧W.cell? ⟨w.heap.size,0,none⟩=some (.pointer none)∧W.frozen? ⟨w.heap.size,0,none⟩=false∧W.cell? ⟨w.heap.size+1,0,none⟩=some (.int .i64 0)∧W.frozen? ⟨w.heap.size+1,0,none⟩=false)∧Below w.heap.size w W)
  (fun c pre W=>(c=.ret∧∃ pre' x,pre=pre'++[x]∧(∀ y∈pre',q.lv.getD y.1 []=[])∧q.lv.getD x.1 []≠[]∧W.cell? ⟨w.heap.size,0,none⟩=some (.pointer (some ⟨ptrs x.1,0,none⟩))∧W.cell? ⟨w.heap.size+1,0,none⟩=some (.int .i64 0))∧Below w.heap.size w W)
  (OwnFrom.and (Own.from (fun s A B row hs hg hr=>⟨hs.1,cell_kept hs.2.1 hg hr,(frozen_kept hs.2.1 hg hr).trans hs.2.2.1,cell_kept hs.2.2.2.1 hg hr,(frozen_kept hs.2.2.2.1 hg hr).trans hs.2.2.2.2⟩) _) (ownFrom_below (Nat.le_refl _) (by omega)))
  (fun c=>OwnFrom.and (Own.from (fun s A B row hs hg hr=>by obtain ⟨h1,pre',x,h2,h3,h4,h5,h6⟩:=hs;exact ⟨h1,pre',x,h2,h3,h4,cell_kept h5 hg hr,cell_kept h6 hg hr⟩) _) (ownFrom_below (Nat.le_refl _) (by omega)))
  ⟨⟨by simp,b0.cell 0,b0.frozen 0,b1.cell 0,b1.frozen 0⟩,hB0⟩
  (fun x=>{ tmps:=#[.pointer (some ⟨p,0,none⟩),undef,.pointer (some ⟨w.heap.size,0,none⟩),.pointer (some ⟨w.heap.size+1,0,none⟩),.pointer (some ⟨ptrs x.1,0,none⟩),.pointer (some ⟨p,0,none⟩),.bool false,.pointer (some ⟨p,0,none⟩),.func (.func 356) #[] #[.pointer (some ⟨w.heap.size+1+1,0,none⟩)],.pointer (some ⟨ptrs x.1,0,none⟩),undef,undef,undef,undef],defers:=[] }) ?assign ?body ?done ?stop
 case assign =>
  intro l x W K hK
  gi_wp2
  exact hK
 case body =>
  rintro l pre x W ⟨⟨hp,hc0,hf0,hc1,hf1⟩,hB⟩ _
  have hd:1≤n - 1 - 1:=by omega
  have A:=qlen_any W _ _ _ _ ((h.lv x.1 x.2).ch (Ch.off hB) (fun _ _ h=>h))
  by_cases hx:q.lv.getD x.1 []=[]
  ·have hx':=hx
   rw [hx] at A
   gi_wp2_with (gi_at_call 355;refine (CallsIn.inRound l (hw _ _ _ _ _ A)).mono ?_;rintro e w' ⟨rfl,rfl⟩)
   exact ⟨KeepsOthers.refl _,⟨Below.refl _ _,rfl⟩,⟨fun y hy=>(List.mem_append.1 hy).elim (hp y) (fun e=>by simp at e;subst e;exact hx'),hc0,hf0,hc1,hf1⟩,hB⟩
  ·have hln:(0:Int) < ((q.lv.getD x.1 []).length:Nat):=by have:=List.length_pos_iff.2 hx;omega
   generalize hL:(q.lv.getD x.1 []).length=L at *;clear hL
   gi_wp2_with (gi_at_call 355;refine (CallsIn.inRound l (hw _ _ _ _ _ A)).mono ?_;rintro e w' ⟨rfl,rfl⟩)
   refine ⟨KeepsOthers.trans (KeepsOthers.setCell _ _ _) (KeepsOthers.setCell _ _ _),⟨rfl,pre,x,rfl,hp,hx,?_,?_⟩,(hB.setCell (p:=⟨w.heap.size,0,none⟩) (Nat.le_refl _) _).setCell (p:=⟨w.heap.size+1,0,none⟩) (Nat.le_succ _) _⟩
   ·rw [World.cell?_setCell_far _ _ _ _ (by simp)];exact World.cell?_setCell_same' _ _ _ (by rw [hc0];rfl)
   ·exact World.cell?_setCell_same' _ _ _ (by rw [World.cell?_setCell_far _ _ _ _ (by simp),hc1];rfl)
 case done =>
  rintro D ys W hD rfl ⟨⟨hne,hc0,hf0,hc1,hf1⟩,hB⟩ hK
  gi_wp2
  have hK':=((KeepsOthers.setCell W ⟨w.heap.size,0,none⟩ (.pointer none)).trans (KeepsOthers.setCell (W.setCell ⟨w.heap.size,0,none⟩ (.pointer none)) ⟨w.heap.size+1,0,none⟩ (.int .i64 12))).same D _ hK rfl
  have e0:((W.setCell ⟨w.heap.size,0,none⟩ (.pointer none)).setCell ⟨w.heap.size+1,0,none⟩ (.int .i64 12)).cell? ⟨w.heap.size,0,none⟩=some (.pointer none):=by rw [World.cell?_setCell_far _ _ _ _ (by simp)];exact World.cell?_setCell_same' _ _ _ (by rw [hc0];rfl)
  have e1:((W.setCell ⟨w.heap.size,0,none⟩ (.pointer none)).setCell ⟨w.heap.size+1,0,none⟩ (.int .i64 12)).cell? ⟨w.heap.size+1,0,none⟩=some (.int .i64 12):=World.cell?_setCell_same' _ _ _ (by rw [World.cell?_setCell_far _ _ _ _ (by simp),hc1];rfl)
  refine ⟨by simp,.inl ⟨_,_,rfl,run_takeDeferred hK',?_⟩⟩
  have e0':=cell_kept e0 (grownBy_putObj' _ D (.deferred none)) (fun r e=>by cases e;exact ⟨_,hK',rfl⟩)
  have e1':=cell_kept e1 (grownBy_putObj' _ D (.deferred none)) (fun r e=>by cases e;exact ⟨_,hK',rfl⟩)
  have ht:topF q.lv=none:=topF_none hne
  rw [ht]
  refine ⟨.tuple #[.pointer none,.int .i64 12],?_,rfl,(((hB.setCell (p:=⟨w.heap.size,0,none⟩) (Nat.le_refl _) _).setCell (p:=⟨w.heap.size+1,0,none⟩) (Nat.le_succ _) _)).trans (belowK_b (w:=w) (Nat.le_refl _) _ D _ _ (by omega) hK' rfl rfl)⟩
  simp [results,f323,go_sem,e0',e1']
 case stop =>
  rintro D c pre W hD ⟨k,hk,hpre⟩ ⟨⟨rfl,pre',x,rfl,he,hx,hc0,hc1⟩,hB⟩ hK
  gi_wp2
  refine ⟨by simp,.inl ⟨_,_,rfl,run_takeDeferred hK,?_⟩⟩
  have e0':=cell_kept hc0 (grownBy_putObj' _ D (.deferred none)) (fun r e=>by cases e;exact ⟨_,hK,rfl⟩)
  have e1':=cell_kept hc1 (grownBy_putObj' _ D (.deferred none)) (fun r e=>by cases e;exact ⟨_,hK,rfl⟩)
  rw [topF_some hk hpre he hx]
  refine ⟨.tuple #[.pointer (some ⟨ptrs x.1,0,none⟩),.int .i64 0],?_,rfl,hB.trans (belowK_b (w:=w) (Nat.le_refl _) W D _ _ (by omega) hK rfl rfl)⟩
  simp [results,f323,go_sem,e0',e1']
end
theorem ptop_any (w:World) {G:Nat→Prop} {p mb:Nat} {ptrs c:Nat→Nat} {q:Prio} (h:PrioAtQ w G p ptrs mb c q) :
  Calls prog 323 #[.pointer (some ⟨p,0,none⟩)] w fun e w'=>e=.returned (.tuple #[topPtr ptrs (topF q.lv),.int .i64 (topWhy (topF q.lv))])∧Below w.heap.size w w' :=
 (callsIn_wide (n:=3)).1 (ptop_in Fence.wide 3 (fun _=>trivial) rfl (fun m f args w R h=>callsIn_wide.2 h) (Nat.le_refl _) w h)
def prioTop (q:Prio):Int × Int :=
 match topF q.lv with
 | none=>(0,12)
 | some i=>frontF (q.lv.getD i.1 [])
theorem pTop_any (w:World) {q:Prio} (h:PrioAt w F p q):Calls prog 275 #[.pointer (some ⟨p,0,none⟩)] w fun e w'=>e=.returned (.tuple #[.int .i64 (prioTop q).1,.int .i64 (prioTop q).2])∧Below w.heap.size w w':=by
 obtain ⟨ptrs,mb,c,h⟩:=h;have A:=Hd (ptop_any w h);unfold prioTop
 cases ht:topF q.lv with
 | none =>
  rw [ht] at A;unfold topPtr topWhy at A;clear h ht
  go_enter func275,ntmps275
  go_wp2_with fail;refine A.out.mono ?_;rintro e w1 ⟨rfl,hb⟩;replace hb:=Hd hb;go_wp2;go_returns
  exact ⟨rfl,hb.out⟩
 | some i =>
  rw [ht] at A;unfold topPtr topWhy at A
  have B:=fun w1 (hb:Below w.heap.size w w1)=>Hd (qfront_any w1 _ _ _ _ ((h.lv i.1 i.2).ch (Ch.off hb) (fun _ _ h=>h)))
  dsimp only;generalize frontF (q.lv.getD i.1 [])=r at *;clear h ht
  go_enter func275,ntmps275
  go_wp2_with fail;refine A.out.mono ?_;rintro e w1 ⟨rfl,hb⟩
  replace B:=B w1 hb
  replace hb:=Hd hb;go_wp2_with fail;refine B.out.mono ?_;rintro e w2 ⟨rfl,n,rfl⟩;go_wp2;go_returns
  exact ⟨rfl,hb.out.trans ((belowN w1 n).mono hb.out.size)⟩
def prioTurn (q:Prio):Prio × Int :=
 match topF q.lv with
 | none=>(q,12)
 | some i=>(⟨q.lv.set i.1 (turnF 32 (q.lv.getD i.1 [])).1,q.pr⟩,(turnF 32 (q.lv.getD i.1 [])).2)
theorem pturn_any (w:World) {q:Prio} (h:PrioAt w F p q):Calls prog 276 #[.pointer (some ⟨p,0,none⟩)] w fun e w'=>e=.returned (.int .i64 (prioTurn q).2)∧PrioAt w' (Plus w w' F) p (prioTurn q).1∧Ch F w w':=by
 have HT:=Hd h;obtain ⟨ptrs,mb,c,h⟩:=h;have A:=Hd (ptop_any w h);unfold prioTurn
 cases ht:topF q.lv with
 | none =>
  rw [ht] at A;unfold topPtr topWhy at A;clear h ht
  go_enter func276,ntmps276
  go_wp2_with fail;refine A.out.mono ?_;rintro e w1 ⟨rfl,hb⟩;replace hb:=Hd hb;go_wp2;go_returns
  exact ⟨rfl,(HT.out.below hb.out).mono Plus.sub (Plus.lt HT.out.ltF hb.out.size),Ch.of_below hb.out⟩
 | some i =>
  rw [ht] at A;unfold topPtr topWhy at A
  have B:=fun w1 (hb:Below w.heap.size w w1)=>Hd (turn_any w1 _ _ _ _ ((h.lv i.1 i.2).ch (Ch.off hb) (fun _ _ h=>h)))
  have H:=Hd h;dsimp only;clear h ht
  go_enter func276,ntmps276
  go_wp2_with fail;refine A.out.mono ?_;rintro e w1 ⟨rfl,hb⟩
  replace B:=B w1 hb
  replace hb:=Hd hb;go_wp2_with fail;refine B.out.mono ?_;rintro e w2 ⟨rfl,h1,h2⟩;replace h1:=Hd h1;replace h2:=Hd h2;go_wp2;go_returns
  have hc:Ch (Col F c i.1) w w2:=(Ch.of_below hb.out).then h2.out (fun _ _ h=>h)
  have h3:FifoAt w2 (Plus w w2 (Col F c i.1)) (ptrs i.1) 32 (turnF 32 (q.lv.getD i.1 [])).1:=h1.out.mono (fun b hb'=>hb'.elim .inl (fun e=>.inr ⟨Nat.le_trans hb.out.size e.1,e.2⟩))
  exact ⟨rfl,⟨ptrs,mb,_,H.out.turn i.2 h3 hc⟩,Col.ch hc⟩
def partCells (ptrs:Nat→Nat) (mb k:Nat):Array Value:=((List.range 8).map (fun i=>if i < k then Value.pointer (some ⟨ptrs i,0,none⟩) else .pointer none)++[Value.map (some mb),Value.int .i64 32]).toArray
theorem partCells_set {ptrs:Nat→Nat} {mb k x:Nat} (hk:k < 8):(partCells ptrs mb k).setIfInBounds k (.pointer (some ⟨x,0,none⟩))=partCells (fun i=>if i=k then x else ptrs i) mb (k+1):=by
 rcases (by omega:k=0∨k=1∨k=2∨k=3∨k=4∨k=5∨k=6∨k=7) with rfl | rfl | rfl | rfl | rfl | rfl | rfl | rfl <;> rfl
theorem partCells_get {ptrs:Nat→Nat} {mb k:Nat} (hk:k < 8):(partCells ptrs mb k)[k]? = some (.pointer none):=by
 rcases (by omega:k=0∨k=1∨k=2∨k=3∨k=4∨k=5∨k=6∨k=7) with rfl | rfl | rfl | rfl | rfl | rfl | rfl | rfl <;> rfl
structure PrioPart (w w':World) (mb k:Nat) (ptrs c:Nat→Nat):Prop where
 head:Blk w' (mb+1) (partCells ptrs mb k) 279
 map:IMapAt w' mb []
 fp:Col (Plus w w' (fun _=>False)) c 8 (mb+1)
 fm:Col (Plus w w' (fun _=>False)) c 9 mb
 lv:∀ i,i < k→FifoAt w' (Col (Plus w w' (fun _=>False)) c i) (ptrs i) 32 []
 below:Below w.heap.size w w'
theorem PrioPart.lt {mb k:Nat} {ptrs c:Nat→Nat} (h:PrioPart w w' mb k ptrs c):∀ b,Plus w w' (fun _=>False) b→b < w'.heap.size:=fun b hb=>hb.elim (fun h=>h.elim) (fun h=>h.2)
theorem PrioPart.step {w w1 w2:World} {mb k:Nat} {ptrs c:Nat→Nat} (h:PrioPart w w1 mb k ptrs c) (hk:k < 8) {x:Nat} (hx:FifoAt w2 (Plus w1 w2 (fun _=>False)) x 32 []) (hb:Below w1.heap.size w1 w2):PrioPart w (w2.setCell ⟨mb+1,k,none⟩ (.pointer (some ⟨x,0,none⟩))) mb (k+1) (fun i=>if i=k then x else ptrs i) (recol w1 c k):=by
 have hc:Ch (fun _=>False) w1 w2:=Ch.off hb
 have hlt:=h.head.lt
 have hmb:w.heap.size≤mb:=h.fm.1.elim (fun e=>e.elim) (fun e=>e.1)
 have hc2:Ch (fun b=>b=mb+1) w1 (w2.setCell ⟨mb+1,k,none⟩ (.pointer (some ⟨x,0,none⟩))):=(hc.mono (fun _ _ h=>h.elim)).put _ _
 have hsub:∀ b,Plus w w1 (fun _=>False) b→Plus w (w2.setCell ⟨mb+1,k,none⟩ (.pointer (some ⟨x,0,none⟩))) (fun _=>False) b:=fun b hb'=>hb'.elim .inl (fun e=>.inr ⟨e.1,Nat.lt_of_lt_of_le e.2 (by simpa using hb.size)⟩)
 have hold:∀ i b,Col (Plus w w1 (fun _=>False)) c i b→Col (Plus w (w2.setCell ⟨mb+1,k,none⟩ (.pointer (some ⟨x,0,none⟩))) (fun _=>False)) (recol w1 c k) i b:=fun i b hb'=>⟨hsub b hb'.1,(recol_old (h.lt b hb'.1)).trans hb'.2⟩
 refine ⟨?_,h.map.ch hc2 (fun e=>by have e:mb=mb+1:=e;omega),hold _ _ h.fp,hold _ _ h.fm,fun i hi=>?_,(h.below.trans (hb.mono h.below.size)).setCell (p:=⟨mb+1,k,none⟩) (by simp only;omega) _⟩
 ·have:=(h.head.ch hc (fun h=>h)).set k (.pointer (some ⟨x,0,none⟩))
  rwa [partCells_set hk] at this
 ·by_cases e:i=k
  ·subst e
   simp only [if_true]
   refine (hx.ch ((Ch.refl (fun b=>b=mb+1) w2).put _ _) (fun b hb' e=>by have e:b=mb+1:=e;subst e;exact hb'.elim (fun h=>h) (fun h2=>by omega))).mono (fun b hb'=>hb'.elim (fun h=>h.elim) (fun h2=>⟨.inr ⟨by have:=h.below.size;omega,by simpa using h2.2⟩,recol_new h2.1⟩))
  ·simp only [e,if_false]
   exact ((h.lv i (by omega)).ch hc2 (fun b hb' e=>by have e:b=mb+1:=e;subst e;have:=hb'.2.symm.trans h.fp.2;omega)).mono (hold i)
theorem prio_new (w:World):Calls prog 113 #[.int .i64 32] w fun e w'=>(∃ p,e=.returned (.tuple #[.pointer (some ⟨p,0,none⟩),.int .i64 0])∧PrioAt w' (Plus w w' (fun _=>False)) p ⟨List.replicate 8 [],[]⟩)∧Below w.heap.size w w':=by
 have hmm:=@run_makeMap prog
 go_enter func113,ntmps113
 go_wp2
 have H0:PrioPart w ((w.alloc (.map #[] 0)).alloc (.cells #[.pointer none,.pointer none,.pointer none,.pointer none,.pointer none,.pointer none,.pointer none,.pointer none,.map (some w.heap.size),.int .i64 32] 279)) w.heap.size 0 (fun _=>0) (fun b=>if b=w.heap.size then 9 else 8):=by
  refine ⟨?_,?_,⟨.inr ⟨by omega,by simp⟩,by simp⟩,⟨.inr ⟨by omega,by simp;omega⟩,by simp⟩,fun i hi=>by omega,((Below.refl _ _).alloc (Nat.le_refl _) _).alloc (by simp) _⟩
  ·exact Blk.at _ _ (by simp)
  ·exact MapAt.ch (MapAt.new w) ((Ch.refl (fun _=>False) _).alloc _) (fun h=>h)
 replace H0:=Hd H0
 go_loopw [12,5,6,7] (fun iv _ _ _ wr=>∃ k:Nat,iv=.int .i64 k∧k≤8∧∃ ptrs c,Hid (PrioPart w wr w.heap.size k ptrs c)) (fun iv _ _ _ _=>8 - (intOf iv).toNat)
 case atStart=>exact ⟨0,rfl,by omega,_,_,H0⟩
 case round =>
  clear H0 hmm;obtain ⟨k,rfl,hk,ptrs,c,H⟩:=hrel
  by_cases hlt:k < 8
  ·have A:=Hd (fifo_new wr 32 (by omega) (by omega))
   have c0:wr.cell? ⟨w.heap.size+1,k,none⟩=some (.pointer none):=by rw [H.out.head.cell k];exact partCells_get hlt
   go_wp2_with fail;refine A.out.mono ?_;rintro e w2 ⟨⟨x,rfl,hx⟩,hb⟩
   have hz:=(H.out.head.ch (Ch.off hb) (fun h=>h))
   have c2:w2.cell? ⟨w.heap.size+1,k,none⟩=some (.pointer none):=keepcell hb c0
   have f2:w2.frozen? ⟨w.heap.size+1,k,none⟩=false:=hz.frozen k
   have h2:=Hd (H.out.step hlt hx hb);clear hz hx hb;go_wp2;go_roundw
   case rel=>exact ⟨k+1,by go_num,hlt,_,_,h2⟩
   case measure=>simp [intOf];omega
  ·have:k=8:=by omega
   subst this;go_wp2;go_returns;have H2:=H.out
   refine ⟨⟨_,rfl,ptrs,w.heap.size,c,H2.head,H2.map,H2.fp,H2.fm,H2.lt,fun i hi=>?_,rfl,fun x hx=>by cases hx⟩,H2.below⟩
   have e:(List.replicate 8 ([]:List Int)).getD i []=[]:=by
    rcases (by omega:i=0∨i=1∨i=2∨i=3∨i=4∨i=5∨i=6∨i=7) with rfl | rfl | rfl | rfl | rfl | rfl | rfl | rfl <;> rfl
   show FifoAt _ _ _ 32 ((List.replicate 8 ([]:List Int)).getD i [])
   rw [e]
   exact H2.lv i hi
section
open Go.Shelf
attribute [local go_sem] Oper.semAt_some
theorem run_app0 {P:Program} {t E ty:TypeId} {i:TypeInfo} (ht:P.underlying t=some (.slice E)) (hi:P.info? E=some i) (w:World) {base base2:Option Addr} {n cap cap2:Nat} (hle:n≤cap) :
  (Builtin.append_ #[t,t] ty #[.slice base n cap,.slice base2 0 cap2]).run P w=.ok (.slice base n cap) w:=by
 refine run_append_nothing w t t ty E i ht hi base n cap hle _ ⟨.inl ⟨E,ht⟩,fun w'=>rfl,?_,?_,by simp,by simp⟩
 ·cases base2 <;> simp [Builtin.firstCells,loadCells,loadCellsFrom]
 ·cases base2 <;> simp [Builtin.firstCells,loadCells,loadCellsFrom]
theorem run_appI {F F2:Nat→Prop} {v v2:Value} {l l2:List Int} (h:IntsAt w F v l) (h2:IntsAt w F2 v2 l2) (hl:l.length+l2.length≤1099511627776) (ty:TypeId) :
  ∃ v' w',(Builtin.append_ #[65,65] ty #[v,v2]).run prog w=.ok v' w'∧IntsAt w' (Plus w w' F) v' (l++l2)∧Ch F w w':=by
 cases l2 with
 | nil =>
  obtain ⟨base,cap,rfl⟩:=RowAt.form h
  obtain ⟨base2,cap2,rfl⟩:=RowAt.form h2
  obtain ⟨i,h3,h4,h5,h6⟩:=info_parts info3
  have hle:l.length≤cap:=by obtain ⟨_,b,c,e,h,_⟩:=h;cases e;exact h
  refine ⟨_,w,run_app0 underlying65 h3 w hle,?_,Ch.refl _ _⟩
  rw [List.append_nil,Plus.self]
  exact h
 | cons x t =>
  obtain ⟨g,cap,rfl,hc1,hc2,hF,hlt,hcell,hfr⟩:=RowAt.open h2 (by simp)
  obtain ⟨i,h3,h4,h5,h6⟩:=info_parts info3
  obtain ⟨v',w',hr,h7,h8⟩:=run_app (P:=prog) (ty:=ty) underlying65 h3 h4 h5 h6 rfl (by omega) h (a:=⟨g,0,none⟩) (m:=(x::t).length) (c:=cap) (news:=(x::t).map (Value.int .i64)) (by simp) (fun j u hj=>by
   have:(⟨g,0,none⟩:Addr).add j=⟨g,j,none⟩:=by unfold Addr.add;split <;> simp_all
   rw [this];exact hcell j u hj) (by simp [Value.oneCell']) (by simp) (by unfold maxLen;omega) (by omega)
  refine ⟨v',w',hr,?_,h8⟩
  unfold IntsAt;rw [List.length_append,List.map_append]
  exact h7
theorem oper_ints {G:Fence} {n:Nat} {o:Oper} {a:Act} {K:Act→World→Prop} {Q:Exit→Act→World→Prop}
  (s x:Operand) (hop:o.op=Op.call { callee:=Callee.builtin Builtin.append,args:=#[s,x],argTypes:=#[65,65] }) {F F2:Nat→Prop} {v v2:Value} {l l2:List Int} (hs:a.eval s=v) (hx:a.eval x=v2) (h:IntsAt w F v l) (h2:IntsAt w F2 v2 l2) (hl:l.length+l2.length≤1099511627776)
  (hK:∀ v' w',IntsAt w' (Plus w w' F) v' (l++l2)→Ch F w w'→K (a.put o.dst v') w'):o.wpIn G n prog a w K Q:=by
 obtain ⟨v',w',hrun,r1,r2⟩:=run_appI h h2 hl o.type
 unfold Oper.wpIn
 refine ⟨?_,?_⟩
 ·simp [Oper.about,hop,resolve,Target.leads,Sem.run_pure]
 ·rw [Oper.semAt_plain G _ _ (by rw [hop];intro c hc';cases hc')]
  simp [execOp,hop,resolve,invoke,builtin,hs,hx,hrun,Result.andThen]
  exact hK v' w' r1 r2
theorem IntsAt.cells {W:World} {v:Value} {l:List Int} (h:IntsAt W F v l):IntsAt W (fun b=>F b∧∃ cs t,Blk W b cs t) v l:=by
 obtain ⟨h1,base,cap,h2,h3,h4,h5⟩:=h
 refine ⟨h1,base,cap,h2,h3,h4,h5.imp id ?_⟩
 rintro ⟨g,cs,a,b,c,d,e⟩
 exact ⟨g,cs,a,b,c,d,e,cs,_,b⟩
theorem IntsAt.own {W W':World} {v:Value} {l:List Int} {row:Option Nat} (h:IntsAt W F v l) (hg:W.grownBy W' row) (hr:∀ r,row=some r→∃ o:Obj,W.heap[r]? = some o∧o.isCells=false):IntsAt W' F v l:=by
 obtain ⟨h1,base,cap,h2,h3,h4,h5⟩:=h
 refine ⟨h1,base,cap,h2,h3,h4,h5.imp id ?_⟩
 rintro ⟨g,cs,a,b,c,d,e⟩
 refine ⟨g,cs,a,?_,c,d,e⟩
 refine (hg.block g b.lt (fun e=>?_)).trans b
 obtain ⟨o,ho,hc⟩:=hr g e.symm
 unfold Blk at b;rw [b] at ho
 cases ho
 cases hc
def listOf (lv:List (List Int)) (pre:List (Fin 8)):List Int:=pre.flatMap (fun i=>lv.getD i.1 [])
theorem listOf_snoc (lv:List (List Int)) (pre:List (Fin 8)) (x:Fin 8):listOf lv (pre++[x])=listOf lv pre++lv.getD x.1 []:=by simp [listOf,List.flatMap_append]
def prioList (q:Prio):List Int:=listOf q.lv (downL 8)
theorem listOf_len (lv:List (List Int)) (h:∀ i,(lv.getD i []).length≤1000) (pre:List (Fin 8)):(listOf lv pre).length≤pre.length*1000:=by
 induction pre with
 | nil=>simp [listOf]
 | cons x t ih =>
  have:=h x.1
  simp only [listOf,List.flatMap_cons,List.length_append,List.length_cons] at ih ⊢
  omega
def Mine (w:World):Nat→Prop:=fun b=>w.heap.size≤b∧b≠w.heap.size∧b≠w.heap.size+1
theorem plist_in (F:Fence) (n:Nat) (hfn:∀ f,F.fn f) (hro:F.round=none) (hw:∀ m f args w R,Calls prog f args w R→CallsIn F m prog f args w R) (hn:3≤n) (w:World) {G:Nat→Prop} {p mb:Nat} {ptrs c:Nat→Nat} {q:Prio} (h:PrioAtQ w G p ptrs mb c q) (hlen:∀ i,(q.lv.getD i []).length≤1000) :
  CallsIn F n prog 305 #[.pointer (some ⟨p,0,none⟩)] w fun e w'=>(∃ v,e=.returned v∧IntsAt w' (New w) v (prioList q))∧Below w.heap.size w w':=by
 have h1:1≤n:=by omega
 refine callsIn_of_wp_marks func305 rfl (hfn 305) ?_ hro
 simp only [ntmps305,List.size_toArray,List.length_cons,List.length_nil,Nat.reduceAdd,Nat.reduceSub,Array.replicate_succ,Array.replicate_zero,List.push_toArray,List.append_toArray,List.nil_append,List.cons_append]
 gi_wp2_with (gi_at_call 338;refine (down_any F (n - 1) (hfn 338) hro p _).mono ?_;rintro e w' ⟨rfl,rfl⟩)
 obtain ⟨W0,hW0⟩:∃ W0,(w.alloc (.cells #[.slice none 0 0] 65)).alloc (.cells #[.pointer (some ⟨p,0,none⟩)] 178)=W0:=⟨_,rfl⟩
 have hs0:W0.heap.size=w.heap.size+2:=by rw [← hW0];simp
 have b0:Blk W0 w.heap.size #[.slice none 0 0] 65:=by rw [← hW0];exact (Blk.new w _ _).alloc _
 have b2:Blk W0 (w.heap.size+1) #[.pointer (some ⟨p,0,none⟩)] 178:=by rw [← hW0];exact Blk.at (w:=w.alloc (.cells #[.slice none 0 0] 65)) _ _ (by simp)
 have hB0:Below w.heap.size w W0:=by rw [← hW0];exact ((Below.refl _ w).alloc (Nat.le_refl _) _).alloc (by simp) _
 rw [hW0];have hlt:=h.head.lt
 refine wpIn_rangeFunc_ownF hro h1 (gf:=356) (lb:=#[.pointer (some ⟨w.heap.size+1,0,none⟩)]) rfl (hfn 356) (enters_of func356 (by kernel_rfl) rfl)
  (down_stops F (n - 1) (hfn 356) hro (by omega) (w.heap.size+1) w.heap.size p ptrs W0 b2 hlt (fun i hi=>keepcell hB0 (h.level i hi))) kpB_t (kpB_b (by omega) (by omega)) (Below.refl _ _) (fun _=>rfl)
  (fun pre W=>(∃ v,W.cell? ⟨w.heap.size,0,none⟩=some v∧W.frozen? ⟨w.heap.size,0,none⟩=false∧IntsAt W (Mine w) v (listOf q.lv pre))∧Below w.heap.size w W∧w.heap.size+2≤W.heap.size)
  (fun _ _ _=>False)
  (OwnFrom.and (Own.from (fun s A B row hs hg hr=>by obtain ⟨v,h1,h2,h3⟩:=hs;exact ⟨v,cell_kept h1 hg hr,(frozen_kept h1 hg hr).trans h2,h3.own hg hr⟩) _) (OwnFrom.and (ownFrom_below (Nat.le_refl _) (by omega)) (fun s A B row hs hg hr=>Nat.le_trans hs hg.size)))
  (fun _ _ _ _ _ hs _ _=>hs)
  ⟨⟨_,b0.cell 0,b0.frozen 0,IntsAt.nil _ _⟩,hB0,by omega⟩
  (fun x=>{ tmps:=#[.pointer (some ⟨p,0,none⟩),undef,.slice none 0 0,.pointer (some ⟨w.heap.size,0,none⟩),.pointer (some ⟨ptrs x.1,0,none⟩),.pointer (some ⟨p,0,none⟩),.bool false,.pointer (some ⟨p,0,none⟩),.func (.func 356) #[] #[.pointer (some ⟨w.heap.size+1,0,none⟩)],.pointer (some ⟨ptrs x.1,0,none⟩),undef,undef,undef,undef,undef],defers:=[] }) ?assign ?body ?done ?stop
 case assign =>
  intro l x W K hK
  gi_wp2
  exact hK
 case body =>
  rintro l pre x W ⟨⟨v,hc0,hf0,hv⟩,hB,hsz⟩ hpre
  have hd:1≤n - 1 - 1:=by omega
  have hmx:prog.follows .mixedOrders=true:=by kernel_rfl
  have A:=qlist_any W.drew _ _ _ _ ((h.lv x.1 x.2).ch ((Ch.off hB).drew) (fun _ _ h=>h))
  have hl1:=listOf_len q.lv hlen pre
  have hl2:=hlen x.1
  gi_wp2
  refine wpIn_region_any hmx ?_
  change wpAnyIn _ _ _ _ _ _ _ _ _ (World.drew _)
  have hb3:∀ w1,Below W.drew.heap.size W.drew w1→Below W.heap.size W w1:=fun w1 hb=>(Below.refl W.heap.size W).drew.trans hb
  replace hv:=hv.cells
  have hWs:w.heap.size+2≤W.heap.size:=hsz
  obtain ⟨L,hL⟩:∃ L,L=listOf q.lv pre++q.lv.getD x.1 []:=⟨_,rfl⟩
  have hL2:L=listOf q.lv (pre++[x]):=by rw [hL,listOf_snoc]
  have hfin:∀ w1 v' w',Below W.heap.size W w1→IntsAt w' (Plus w1 w' (fun b=>Mine w b∧∃ cs t,Blk W b cs t)) v' L→Ch (fun b=>Mine w b∧∃ cs t,Blk W b cs t) w1 w'→w'.cell? ⟨w.heap.size,0,none⟩=some v∧w'.frozen? ⟨w.heap.size,0,none⟩=false∧(∀ u,KeepsOthers W (w'.setCell ⟨w.heap.size,0,none⟩ u))∧(∀ u,KpB w.heap.size (w.heap.size+1) W (w'.setCell ⟨w.heap.size,0,none⟩ u))∧∀ u,IntsAt (w'.setCell ⟨w.heap.size,0,none⟩ u) (Mine w) v' (listOf q.lv (pre++[x]))∧Below w.heap.size w (w'.setCell ⟨w.heap.size,0,none⟩ u)∧w.heap.size+2≤(w'.setCell ⟨w.heap.size,0,none⟩ u).heap.size:=by
   intro w1 v' w' hb h7 h8
   have hs1:=hb.size;have hs2:=h8.size
   have hkeep:∀ k,k < W.heap.size→¬ (Mine w k∧∃ cs t,Blk W k cs t)→w'.heap[k]? = W.heap[k]?:=fun k hk hn=>(h8.block k (by omega) hn).trans (hb.block k hk)
   have hbw:Below w.heap.size W w':=⟨h8.os.trans hb.os,h8.tape.trans hb.tape,h8.output.trans hb.output,by omega,fun k hk=>hkeep k (by omega) (fun e=>by have:=e.1.1;omega)⟩
   refine ⟨keepch h8 (keepcell hb hc0) (fun e=>e.1.2.1 rfl),?_,?_,?_,?_⟩
   ·rw [h8.frozen (by omega) (fun e=>e.1.2.1 rfl),(Ch.off hb).frozen (by omega) (fun h=>h)];exact hf0
   ·intro u
    refine KeepsOthers.trans ⟨by omega,fun k o hk ho=>?_⟩ (KeepsOthers.setCell _ _ _)
    refine (hkeep k (Array.getElem?_eq_some_iff.1 hk).1 (fun e=>?_)).trans hk
    obtain ⟨_,cs,t,hbk⟩:=e;unfold Blk at hbk;rw [hbk] at hk
    cases hk
    cases ho
   ·intro u
    refine ⟨hbw.setCell (p:=⟨w.heap.size,0,none⟩) (Nat.le_refl _) u,?_⟩
    rw [Below.heap_setCell _ _ _ _ (by simp)]
    exact hkeep _ (by omega) (fun e=>e.1.2.2 rfl)
   ·intro u
    rw [← hL2]
    refine ⟨(h7.mono (G:=Mine w) (fun b hb'=>hb'.elim (fun e=>e.1) (fun e=>⟨by omega,by omega,by omega⟩))).ch ((Ch.refl (fun b=>b=w.heap.size) w').put 0 u) (fun b hb' e=>hb'.2.1 e),hB.trans (hbw.setCell (p:=⟨w.heap.size,0,none⟩) (Nat.le_refl _) u),by simp;omega⟩
  replace hL:=Hd hL;replace hL2:=Hd hL2
  refine wpAnyIn_ready (rs:=[0,1]) (by kernel_rfl) (by simp) ?_
  refine AllReadyIn.cons rfl (fun K hK=>?_) (AllReadyIn.cons rfl (fun K hK=>?_) AllReadyIn.nil)
  ·go_simp
   refine hK _ _ ?_;clear hK K
   refine wpAnyIn_ready (rs:=[1]) (by kernel_rfl) (by simp) ?_
   refine AllReadyIn.cons rfl (fun K hK=>?_) AllReadyIn.nil
   go_simp
   refine hK _ _ ?_;clear hK K
   refine wpAnyIn_ready (rs:=[2]) (by kernel_rfl) (by simp) ?_
   refine AllReadyIn.cons rfl (fun K hK=>?_) AllReadyIn.nil
   go_simp
   refine (CallsIn.inRound l (hw _ _ _ _ _ A)).mono ?_
   rintro e w1 ⟨⟨v2,rfl,hv2⟩,hb2⟩;dsimp only
   replace hb2:=hb3 _ hb2
   refine hK _ _ ?_;clear hK K
   refine wpAnyIn_ready (rs:=[3]) (by kernel_rfl) (by simp) ?_
   refine AllReadyIn.cons rfl (fun K hK=>?_) AllReadyIn.nil
   refine oper_ints (Operand.tmp 10) (Operand.tmp 12) rfl rfl rfl (hv.ch (Ch.off hb2) (fun _ _ h=>h)) hv2 (by have:=hpre;omega) ?_
   intro v' w' h7 h8
   rw [← hL.out] at h7
   obtain ⟨base,cap,rfl⟩:=RowAt.form h7
   refine hK _ _ ?_;clear hK K
   obtain ⟨kc,kf,hk1,hk2,hk3⟩:=hfin w1 _ w' hb2 h7 h8
   refine wpAnyIn_ready (rs:=[4]) (by kernel_rfl) (by simp) ?_
   refine AllReadyIn.cons rfl (fun K hK=>?_) AllReadyIn.nil
   go_simp
   refine hK _ _ ?_;clear hK K
   refine wpAnyIn_done (by kernel_rfl) ?_ _
   exact ⟨hk1 _,hk2 _,⟨_,World.cell?_setCell_same' _ _ _ (by rw [kc];rfl),by rw [World.frozen?_setCell];exact kf,(hk3 _).1⟩,(hk3 _).2.1,(hk3 _).2.2⟩
  ·go_simp
   refine hK _ _ ?_;clear hK K
   refine wpAnyIn_ready (rs:=[0,2]) (by kernel_rfl) (by simp) ?_
   refine AllReadyIn.cons rfl (fun K hK=>?_) (AllReadyIn.cons rfl (fun K hK=>?_) AllReadyIn.nil)
   ·go_simp
    refine hK _ _ ?_;clear hK K
    refine wpAnyIn_ready (rs:=[2]) (by kernel_rfl) (by simp) ?_
    refine AllReadyIn.cons rfl (fun K hK=>?_) AllReadyIn.nil
    go_simp
    refine (CallsIn.inRound l (hw _ _ _ _ _ A)).mono ?_
    rintro e w1 ⟨⟨v2,rfl,hv2⟩,hb2⟩;dsimp only
    replace hb2:=hb3 _ hb2
    refine hK _ _ ?_;clear hK K
    refine wpAnyIn_ready (rs:=[3]) (by kernel_rfl) (by simp) ?_
    refine AllReadyIn.cons rfl (fun K hK=>?_) AllReadyIn.nil
    refine oper_ints (Operand.tmp 10) (Operand.tmp 12) rfl rfl rfl (hv.ch (Ch.off hb2) (fun _ _ h=>h)) hv2 (by have:=hpre;omega) ?_
    intro v' w' h7 h8
    rw [← hL.out] at h7
    obtain ⟨base,cap,rfl⟩:=RowAt.form h7
    refine hK _ _ ?_;clear hK K
    obtain ⟨kc,kf,hk1,hk2,hk3⟩:=hfin w1 _ w' hb2 h7 h8
    refine wpAnyIn_ready (rs:=[4]) (by kernel_rfl) (by simp) ?_
    refine AllReadyIn.cons rfl (fun K hK=>?_) AllReadyIn.nil
    go_simp
    refine hK _ _ ?_;clear hK K
    refine wpAnyIn_done (by kernel_rfl) ?_ _
    exact ⟨hk1 _,hk2 _,⟨_,World.cell?_setCell_same' _ _ _ (by rw [kc];rfl),by rw [World.frozen?_setCell];exact kf,(hk3 _).1⟩,(hk3 _).2.1,(hk3 _).2.2⟩
   ·go_simp
    refine (CallsIn.inRound l (hw _ _ _ _ _ A)).mono ?_
    rintro e w1 ⟨⟨v2,rfl,hv2⟩,hb2⟩;dsimp only
    replace hb2:=hb3 _ hb2
    refine hK _ _ ?_;clear hK K
    have kl:w1.cell? ⟨w.heap.size,0,none⟩=some v:=keepcell hb2 hc0
    refine wpAnyIn_ready (rs:=[0]) (by kernel_rfl) (by simp) ?_
    refine AllReadyIn.cons rfl (fun K hK=>?_) AllReadyIn.nil
    go_simp
    refine hK _ _ ?_;clear hK K
    refine wpAnyIn_ready (rs:=[3]) (by kernel_rfl) (by simp) ?_
    refine AllReadyIn.cons rfl (fun K hK=>?_) AllReadyIn.nil
    refine oper_ints (Operand.tmp 10) (Operand.tmp 12) rfl rfl rfl (hv.ch (Ch.off hb2) (fun _ _ h=>h)) hv2 (by have:=hpre;omega) ?_
    intro v' w' h7 h8
    rw [← hL.out] at h7
    obtain ⟨base,cap,rfl⟩:=RowAt.form h7
    refine hK _ _ ?_;clear hK K
    obtain ⟨kc,kf,hk1,hk2,hk3⟩:=hfin w1 _ w' hb2 h7 h8
    refine wpAnyIn_ready (rs:=[4]) (by kernel_rfl) (by simp) ?_
    refine AllReadyIn.cons rfl (fun K hK=>?_) AllReadyIn.nil
    go_simp
    refine hK _ _ ?_;clear hK K
    refine wpAnyIn_done (by kernel_rfl) ?_ _
    exact ⟨hk1 _,hk2 _,⟨_,World.cell?_setCell_same' _ _ _ (by rw [kc];rfl),by rw [World.frozen?_setCell];exact kf,(hk3 _).1⟩,(hk3 _).2.1,(hk3 _).2.2⟩
 case done =>
  rintro D ys W hD rfl ⟨⟨v,hc0,hf0,hv⟩,hB,hsz⟩ hK
  gi_wp2
  refine ⟨by simp,.inl ⟨_,_,rfl,run_takeDeferred hK,?_⟩⟩
  refine ⟨_,results_tmp rfl _ _ _,⟨v,rfl,(hv.own (grownBy_putObj' W D (.deferred none)) (fun r e=>by cases e;exact ⟨_,hK,rfl⟩)).mono (fun b hb=>hb.1)⟩,hB.trans (belowK_b (w:=w) (Nat.le_refl _) W D _ _ (by omega) hK rfl rfl)⟩
 case stop =>
  rintro D c pre W hD _ h _
  exact h.elim
theorem plist_any (w:World) {q:Prio} (h:PrioAt w F p q):Calls prog 305 #[.pointer (some ⟨p,0,none⟩)] w fun e w'=>(∃ v,e=.returned v∧IntsAt w' (New w) v (prioList q))∧Below w.heap.size w w':=by
 obtain ⟨ptrs,mb,c,h⟩:=h
 refine (callsIn_wide (n:=3)).1 (plist_in Fence.wide 3 (fun _=>trivial) rfl (fun m f args w R h=>callsIn_wide.2 h) (Nat.le_refl _) w h fun i=>?_)
 by_cases hi:i < 8
 ·obtain ⟨r,ring,first,many,hr,hl⟩:=h.lv i hi
  rw [← hl,ringL_len]
  have:=hr.n
  omega
 ·rw [List.getD_eq_getElem?_getD,List.getElem?_eq_none (by rw [h.len];omega)]
  simp
end
end Go.Proofs.YtiocbpabbjgkhaaGreatDoor
