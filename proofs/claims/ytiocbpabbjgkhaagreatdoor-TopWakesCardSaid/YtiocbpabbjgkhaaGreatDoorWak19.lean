/- Part 19 of the proof: contracts and plain laws, each under the conditions that it names. -/
import Derived.Test.YtiocbpabbjgkhaaGreatDoorWak18
import Derived.Deep.RegionHeld3
set_option maxRecDepth 100000
set_option maxHeartbeats 20000000
set_option linter.unusedVariables false
set_option linter.unusedSimpArgs false
namespace Go.Proofs.YtiocbpabbjgkhaaGreatDoor
open Go.RowKit Go.Proofs.Tryz
variable {w w' : World} {F : Nat → Prop} {p : Nat} {f : KF} {k : K}
def keysL (m:Timers):List (List Int):=m.l.map fun s=>s.dues.map Prod.fst
theorem keysL_len (m:Timers):(keysL m).length=m.l.length:=by simp [keysL]
theorem keysL_get (m:Timers) (i:Nat):(keysL m).getD i []=(m.l.getD i noWheel).dues.map Prod.fst:=by
 simp only [keysL,List.getD_eq_getElem?_getD,List.getElem?_map]
 cases m.l[i]? with
 | none=>rfl
 | some s=>rfl
theorem keysL_set (ids:Slot) (l:List Wheel) (wh wh':List (Int × Int)) (ids':Slot) (i:Nat) (s:Wheel):keysL ⟨ids',l.set i s,wh'⟩=(keysL ⟨ids,l,wh⟩).set i (s.dues.map Prod.fst):=by
 simp [keysL,List.map_set]
structure TmOk (m:Timers):Prop where
 own:Own 48 m.ids (keysL m)
 wok:∀ i,i < m.l.length→WOk (m.l.getD i noWheel)
 nd:(m.wh.map Prod.fst).Nodup
 wh:∀ d c,mget m.wh d=some c ↔ 0≤c∧d∈(keysL m).getD c.toNat []
theorem TmOk.keys {m:Timers} (h:TmOk m):(m.wh.map Prod.fst).Perm (keysL m).flatten:=by
 refine (List.perm_ext_iff_of_nodup h.nd h.own.nd).2 fun d=>?_
 rw [← mget_some_iff,mem_flat]
 constructor
 ·intro hs
  cases hg:mget m.wh d with
  | none=>rw [hg] at hs;exact absurd hs (by decide)
  | some c =>
   obtain ⟨h1,h2⟩:=(h.wh d c).1 hg
   refine ⟨c.toNat,?_,h2⟩
   refine Nat.lt_of_not_le fun hle=>?_
   rw [List.getD_eq_getElem?_getD,List.getElem?_eq_none hle] at h2
   cases h2
 ·rintro ⟨i,hi,hm⟩
  rw [(h.wh d (i:Int)).2 ⟨by omega,by simpa using hm⟩]
  rfl
theorem TmOk.dues {m:Timers} (h:TmOk m) (i:Nat):(m.l.getD i noWheel).dues.length≤48:=by
 have:=h.own.len i
 rw [keysL_get] at this
 simpa using this
theorem TmOk.few {m:Timers} (h:TmOk m):fewT m:=fun i hi=>by
 rw [(h.wok i hi).max]
 have:=h.dues i
 omega
theorem TmOk.keysT {m:Timers} (h:TmOk m):keysT m:=fun i hi=>by
 have:=h.dues i
 refine ⟨fun x hx=>?_,by omega⟩
 have hm:x.1∈(keysL m).flatten:=(sub_flat (keysL m) i).subset (by rw [keysL_get];exact List.mem_map_of_mem hx)
 have:=h.own.rng hm
 unfold NumD.In64
 omega
theorem TmOk.next {m:Timers} (h:TmOk m):nextOk m:=fun i hi hd=>(h.wok i hi).first hd
theorem TmOk.next_in {m:Timers} (h:TmOk m) (cpu:Int):0≤(timersNext m cpu).1∧(timersNext m cpu).1≤1152921504606846976:=by
 unfold timersNext
 split
 ·exact ⟨by decide,by decide⟩
 ·rename_i hm
  obtain ⟨i,rfl,hi⟩:=may_yes (Classical.not_not.1 hm)
  rw [Int.toNat_natCast]
  exact (h.wok i hi).next
theorem TmOk.on {m:Timers} (h:TmOk m) {d c:Int} (hd:mget m.wh d=some c):∃ i:Nat,c=i∧i < m.l.length∧(mget (m.l.getD i noWheel).dues d).isSome=true:=by
 obtain ⟨h1,h2⟩:=(h.wh d c).1 hd
 have hlt:c.toNat < m.l.length:=Nat.lt_of_not_le fun hle=>by
  rw [List.getD_eq_getElem?_getD,List.getElem?_eq_none (by rw [keysL_len];exact hle)] at h2
  cases h2
 refine ⟨c.toNat,by omega,hlt,?_⟩
 rw [keysL_get] at h2
 exact mget_some_iff.2 h2
theorem TmOk.of_on {m:Timers} (h:TmOk m) {d:Int} {i:Nat} (hd:(mget (m.l.getD i noWheel).dues d).isSome=true):mget m.wh d=some (i:Int) :=
 (h.wh d i).2 ⟨by omega,by rw [keysL_get];simpa using mget_some_iff.1 hd⟩
theorem TmOk.start (cpus:Nat):TmOk (timers0 cpus):=by
 have e:keysL (timers0 cpus)=List.replicate cpus []:=by simp [keysL,timers0,wheel0]
 refine ⟨?_,fun i hi=>?_,List.nodup_nil,fun d c=>?_⟩
 ·rw [e];exact Own.start 48 cpus
 ·have hi:i < cpus:=by simpa [timers0] using hi
  have:(timers0 cpus).l.getD i noWheel=wheel0 0:=by simp [timers0,hi]
  rw [this]
  exact WOk.start 0 (by omega)
 ·rw [e]
  constructor
  ·intro h;cases h
  ·rintro ⟨-,h⟩
   simp only [List.getD_eq_getElem?_getD,List.getElem?_replicate] at h
   split at h <;> simp at h
theorem nth_in {α:Type} {L:List α} {i:Nat} {d x:α} (h:i < L.length):(L.set i x).getD i d=x:=by rw [getD_set,if_pos ⟨rfl,h⟩]
theorem nth_off {α:Type} {L:List α} {i j:Nat} {d x:α} (h:i≠j):(L.set i x).getD j d=L.getD j d:=by rw [getD_set,if_neg (fun e=>h e.1)]
theorem TmOk.arm {m:Timers} (h:TmOk m) (cpu due:Int) :
  TmOk (timersArm m cpu due).1∧(timersArm m cpu due).1.l.length=m.l.length∧(((timersArm m cpu due).2.2≠0∧(timersArm m cpu due).1=m) ∨
   ((timersArm m cpu due).2.2=0∧mget m.wh (timersArm m cpu due).2.1=none∧1≤(timersArm m cpu due).2.1∧(timersArm m cpu due).1.wh=mput m.wh (timersArm m cpu due).2.1 cpu)):=by
 unfold timersArm
 split
 ·exact ⟨h,rfl,.inl ⟨(by decide:(3:Int)≠0),rfl⟩⟩
 rename_i hm
 obtain ⟨i,rfl,hi⟩:=may_yes (Classical.not_not.1 hm)
 rw [Int.toNat_natCast]
 split
 ·exact ⟨h,rfl,.inl ⟨(by decide:(2:Int)≠0),rfl⟩⟩
 rename_i hdue
 by_cases he:(slotTake 48 m.ids).2.2=0
 ·rw [if_neg (by simp [he])]
  dsimp only
  have hr:rightF due=true:=by
   unfold rightF
   simp only [Bool.and_eq_true,decide_eq_true_eq]
   omega
  obtain ⟨o1,o2,o3,o4⟩:=h.own.take (L':=(keysL m).set i ((keysL m).getD i []++[(slotTake 48 m.ids).2.1])) (by omega) he (flat_add _ i _ (by rw [keysL_len];exact hi))
  generalize (slotTake 48 m.ids).2.1=id at *
  have hnone:mget (m.l.getD i noWheel).dues id=none:=by
   refine mget_none_iff.2 fun e=>o2 ((sub_flat _ i).subset ?_)
   rw [keysL_get];exact e
  obtain ⟨a1,a2,a3,-⟩:=(h.wok i hi).add hr hnone
  have hw:mget m.wh id=none:=by
   cases hg:mget m.wh id with
   | none=>rfl
   | some c =>
    obtain ⟨j,rfl,hj,hs⟩:=h.on hg
    exact absurd ((sub_flat (keysL m) j).subset (by rw [keysL_get];exact mget_some_iff.1 hs)) o2
  have ek:keysL ⟨(slotTake 48 m.ids).1,m.l.set i (wheelAdd (m.l.getD i noWheel) id due).1,mput m.wh id i⟩=(keysL m).set i ((keysL m).getD i []++[id]):=by
   rw [keysL_set m.ids m.l m.wh,a3,mput_keys_new hnone,keysL_get]
  refine ⟨⟨by rw [ek];exact o1,fun j hj=>?_,mput_nodup h.nd,fun d c=>?_⟩,by simp,.inr ⟨a1,hw,o3,rfl⟩⟩
  ·by_cases e:i=j
   ·subst e
    show WOk ((m.l.set i _).getD i noWheel)
    rw [nth_in hi];exact a2
   ·show WOk ((m.l.set i _).getD j noWheel)
    rw [nth_off e]
    exact h.wok j (by simpa using hj)
  ·rw [ek,mput_get]
   by_cases e:id=d
   ·subst e
    rw [if_pos rfl]
    constructor
    ·intro hc
     have hc:(i:Int)=c:=by simpa using hc
     subst hc
     exact ⟨by omega,by rw [Int.toNat_natCast,nth_in (by rw [keysL_len];exact hi)];simp⟩
    ·rintro ⟨hc,hc2⟩
     by_cases e2:i=c.toNat
     ·rw [e2,Int.toNat_of_nonneg hc]
     ·rw [nth_off e2] at hc2
      exact absurd ((sub_flat _ _).subset hc2) o2
   ·rw [if_neg e,h.wh]
    refine and_congr_right fun hc=>?_
    by_cases e2:i=c.toNat
    ·rw [← e2,nth_in (by rw [keysL_len];exact hi)]
     simp [Ne.symm e]
    ·rw [nth_off e2]
 ·rw [if_pos he]
  dsimp only;rw [slotTake_bad he]
  exact ⟨h,rfl,.inl ⟨he,rfl⟩⟩
theorem TmOk.cancel {m:Timers} (h:TmOk m) {d:Int} (hs:(mget m.wh d).isSome=true) :
  TmOk (timersCancel m d).1∧(timersCancel m d).1.l.length=m.l.length∧(timersCancel m d).2=0∧(timersCancel m d).1.wh=mdel m.wh d:=by
 unfold timersCancel
 cases hg:mget m.wh d with
 | none=>rw [hg] at hs;exact absurd hs (by decide)
 | some v =>
  obtain ⟨i,rfl,hi,hd⟩:=h.on hg
  dsimp only;rw [Int.toNat_natCast]
  obtain ⟨a1,a2,a3,-⟩:=(h.wok i hi).drop hd
  have hmem:d∈(keysL m).getD i []:=by rw [keysL_get];exact mget_some_iff.1 hd
  obtain ⟨o1,o2⟩:=h.own.give (L':=(keysL m).set i (((keysL m).getD i []).erase d)) (by omega) ((sub_flat _ i).subset hmem) (flat_drop (by rw [keysL_len];exact hi) hmem)
  have ek:keysL ⟨(slotGive 48 m.ids d).1,m.l.set i (wheelDrop (m.l.getD i noWheel) d).1,mdel m.wh d⟩=(keysL m).set i (((keysL m).getD i []).erase d):=by
   rw [keysL_set m.ids m.l m.wh,a3,mdel_keys,keysL_get]
  refine ⟨⟨by rw [ek];exact o1,fun j hj=>?_,mdel_nodup h.nd,fun x c=>?_⟩,by simp,a1,rfl⟩
  ·by_cases e:i=j
   ·subst e
    show WOk ((m.l.set i _).getD i noWheel)
    rw [nth_in hi];exact a2
   ·show WOk ((m.l.set i _).getD j noWheel)
    rw [nth_off e]
    exact h.wok j (by simpa using hj)
  ·rw [ek,mdel_get h.nd]
   by_cases e:d=x
   ·subst e
    rw [if_pos rfl]
    constructor
    ·intro hc;cases hc
    ·rintro ⟨hc,hc2⟩
     by_cases e2:i=c.toNat
     ·rw [← e2,nth_in (by rw [keysL_len];exact hi),(h.own.nodup i).mem_erase_iff] at hc2
      exact absurd rfl hc2.1
     ·rw [nth_off e2] at hc2
      exact absurd (flat_once h.own.nd hmem hc2) e2
   ·rw [if_neg e,h.wh]
    refine and_congr_right fun hc=>?_
    by_cases e2:i=c.toNat
    ·rw [← e2,nth_in (by rw [keysL_len];exact hi),(h.own.nodup i).mem_erase_iff]
     exact ⟨fun hx=>⟨fun e3=>e e3.symm,hx⟩,fun hx=>hx.2⟩
    ·rw [nth_off e2]
theorem TmOk.go {m:Timers} (h:TmOk m) (t:Int):TmOk (timersGo m t).1∧(timersGo m t).1.wh=m.wh∧(timersGo m t).1.l.length=m.l.length:=by
 have el:(timersGo m t).1.l=m.l.map fun s=>(wheelGo s t).1:=by simp [timersGo,goTo]
 have eg:∀ i,i < m.l.length→(timersGo m t).1.l.getD i noWheel=(wheelGo (m.l.getD i noWheel) t).1:=fun i hi=>by
  rw [el]
  simp only [List.getD_eq_getElem?_getD,List.getElem?_map,List.getElem?_eq_getElem hi]
  rfl
 have ek:keysL (timersGo m t).1=keysL m:=by
  refine List.ext_getElem? fun i=>?_
  by_cases hi:i < m.l.length
  ·have:=(h.wok i hi).go t
   simp only [keysL,List.getElem?_map,el]
   rw [List.getD_eq_getElem?_getD,List.getElem?_eq_getElem hi] at this
   simp only [List.getElem?_eq_getElem hi,Option.map_some,Option.getD_some] at this ⊢
   rw [this.2]
  ·simp only [keysL,List.getElem?_map,el,List.getElem?_eq_none (by omega:m.l.length≤i),Option.map_none]
 refine ⟨⟨by rw [ek];exact h.own,fun i hi=>?_,h.nd,by rw [ek];exact h.wh⟩,rfl,by rw [el];simp⟩
 have hi:i < m.l.length:=by rw [el] at hi;simpa using hi
 rw [eg i hi]
 exact ((h.wok i hi).go t).1
theorem TmOk.fire {m:Timers} (h:TmOk m) (cpu:Int) :
  ((timersFire m cpu).2.2≠0∧(timersFire m cpu).1=m∧(timersFire m cpu).2.1=0∧timersReady m cpu=false) ∨
  ((mget m.wh (timersFire m cpu).2.1).isSome=true∧(timersFire m cpu).2.2=0∧(timersFire m cpu).1=(timersCancel m (timersFire m cpu).2.1).1):=by
 unfold timersFire timersReady timersDue
 split
 ·rename_i hm
  exact .inl ⟨(by decide:(3:Int)≠0),rfl,rfl,by simp⟩
 ·rename_i hm
  obtain ⟨i,rfl,hi⟩:=may_yes (Classical.not_not.1 hm)
  rw [Int.toNat_natCast]
  split
  ·rename_i hd
   exact .inl ⟨(by decide:(12:Int)≠0),rfl,rfl,by rw [decide_eq_false_iff_not];exact fun e=>e hd⟩
  ·rename_i hd
   right
   have hs:=(h.wok i hi).due_mem hd
   have:=h.of_on hs
   dsimp only
   refine ⟨by rw [this];rfl,(h.cancel (by rw [this];rfl)).2.2.1,rfl⟩
theorem TmOk.move {m:Timers} (h:TmOk m) (a b:Int) :
  TmOk (timersMove m a b).1∧(timersMove m a b).1.l.length=m.l.length∧(timersMove m a b).1.wh.map Prod.fst=m.wh.map Prod.fst:=by
 unfold timersMove
 split
 ·exact ⟨h,rfl,rfl⟩
 rename_i hm
 have hm2:may2 m.l.length a b=0:=Classical.not_not.1 hm
 clear hm;unfold may2 at hm2
 have ha:mayF m.l.length a=0:=Classical.byContradiction fun e=>by
  rw [if_pos e] at hm2
  exact e hm2
 rw [if_neg (by simp [ha])] at hm2
 obtain ⟨i,rfl,hi⟩:=may_yes ha
 obtain ⟨j,rfl,hj⟩:=may_yes hm2
 split
 ·exact ⟨h,rfl,rfl⟩
 rename_i hne
 have hne:i≠j:=fun e=>hne (by rw [e])
 have el:timersList m (i:Int)=wheelList (m.l.getD i noWheel):=by
  unfold timersList
  rw [if_neg (by simp [ha]),Int.toNat_natCast]
 rw [el,Int.toNat_natCast,Int.toNat_natCast]
 split
 ·exact ⟨h,rfl,rfl⟩
 rename_i hl
 have hs:=(h.wok i hi).list_mem hl
 generalize (wheelList (m.l.getD i noWheel)).headD 0=id at *
 have hw:=h.of_on hs
 have hdue:rightF (timersWhen m id).1=true:=by
  unfold timersWhen;rw [hw];dsimp only;rw [Int.toNat_natCast]
  have:=(h.wok i hi).due id
  unfold rightF
  simp only [Bool.and_eq_true,decide_eq_true_eq]
  exact this
 generalize (timersWhen m id).1=due at *;unfold timersMoveTo;dsimp only
 obtain ⟨a1,a2,a3,-⟩:=(h.wok i hi).drop hs
 have hmem:id∈(keysL m).getD i []:=by rw [keysL_get];exact mget_some_iff.1 hs
 have hnone:mget (m.l.getD j noWheel).dues id=none:=by
  refine mget_none_iff.2 fun e=>hne (flat_once h.own.nd hmem (by rw [keysL_get];exact e))
 obtain ⟨b1,b2,b3,-⟩:=(h.wok j hj).add hdue hnone
 have ek:keysL ⟨m.ids,(m.l.set i (wheelDrop (m.l.getD i noWheel) id).1).set j (wheelAdd (m.l.getD j noWheel) id due).1,mput m.wh id j⟩=((keysL m).set i (((keysL m).getD i []).erase id)).set j ((keysL m).getD j []++[id]):=by
  rw [keysL_set m.ids _ m.wh,keysL_set m.ids m.l m.wh,a3,b3,mdel_keys,mput_keys_new hnone,keysL_get,keysL_get]
 have hperm:(((keysL m).set i (((keysL m).getD i []).erase id)).set j ((keysL m).getD j []++[id])).flatten.Perm (keysL m).flatten:=by
  have p1:=flat_add ((keysL m).set i (((keysL m).getD i []).erase id)) j id (by simp [keysL_len];exact hj)
  rw [nth_off hne] at p1
  have p2:=flat_drop (L:=keysL m) (i:=i) (d:=id) (by rw [keysL_len];exact hi) hmem
  refine p1.trans ((p2.append_right [id]).trans ?_)
  refine List.perm_append_comm.trans ?_
  exact (List.perm_cons_erase ((sub_flat _ i).subset hmem)).symm
 refine ⟨⟨by rw [ek];exact h.own.perm hperm,fun k hk=>?_,mput_nodup h.nd,fun x c=>?_⟩,by simp,mput_keys_old (by rw [hw];rfl)⟩
 ·show WOk (((m.l.set i _).set j _).getD k noWheel)
  by_cases e:j=k
  ·subst e
   rw [nth_in (by simpa using hj)];exact b2
  ·rw [nth_off e]
   by_cases e2:i=k
   ·subst e2
    rw [nth_in hi];exact a2
   ·rw [nth_off e2]
    exact h.wok k (by simpa using hk)
 ·rw [ek,mput_get]
  by_cases e:id=x
  ·subst e
   rw [if_pos rfl]
   constructor
   ·intro hc
    have hc:(j:Int)=c:=by simpa using hc
    subst hc
    exact ⟨by omega,by rw [Int.toNat_natCast,nth_in (by simp [keysL_len];exact hj)];simp⟩
   ·rintro ⟨hc,hc2⟩
    by_cases e2:j=c.toNat
    ·rw [e2,Int.toNat_of_nonneg hc]
    ·rw [nth_off e2] at hc2
     by_cases e3:i=c.toNat
     ·rw [← e3,nth_in (by rw [keysL_len];exact hi),(h.own.nodup i).mem_erase_iff] at hc2
      exact absurd rfl hc2.1
     ·rw [nth_off e3] at hc2
      exact absurd (flat_once h.own.nd hmem hc2) e3
  ·rw [if_neg e,h.wh]
   refine and_congr_right fun hc=>?_
   by_cases e2:j=c.toNat
   ·rw [← e2,nth_in (by simp [keysL_len];exact hj)]
    simp [Ne.symm e]
   ·rw [nth_off e2]
    by_cases e3:i=c.toNat
    ·rw [← e3,nth_in (by rw [keysL_len];exact hi),(h.own.nodup i).mem_erase_iff]
     exact ⟨fun hx=>⟨fun e4=>e e4.symm,hx⟩,fun hx=>hx.2⟩
    ·rw [nth_off e3]
theorem put_same {α:Type} (L:List α) (i:Nat) (d:α) (h:i < L.length):L.set i (L.getD i d)=L:=by
 rw [List.getD_eq_getElem?_getD,List.getElem?_eq_getElem h,Option.getD_some,List.set_getElem_self]
theorem getD_lt {L:List (List Int)} {i:Nat} {d:Int} (h:d∈L.getD i []):i < L.length:=Nat.lt_of_not_le fun hle=>by
 rw [List.getD_eq_getElem?_getD,List.getElem?_eq_none hle] at h
 cases h
theorem Own.room {ids:Slot} {L:List (List Int)} (h:Own 32 ids L) {d:Int} (h1:1≤d∧d≤32) {i:Nat} (hd:d ∉ L.getD i []):pushF 32 (L.getD i []) d=(L.getD i []++[d],0):=by
 have:(d::L.getD i []).length≤32:=nodup_le (List.nodup_cons.2 ⟨hd,h.nodup i⟩) (fun x hx=>by rcases List.mem_cons.1 hx with rfl | hx;exact h1;exact h.rng ((sub_flat L i).subset hx))
 simp only [List.length_cons] at this
 unfold pushF;rw [if_neg hd,if_neg (by omega)]
theorem wMay_yes {n:Nat} {c lo:Int} (hlo:lo=-1∨lo=0) (h:wMay n c lo=0):∃ i:Nat,(c+1).toNat=i∧c=(i:Int) - 1∧lo≤c∧i < n:=by
 unfold wMay at h
 split at h
 ·exact absurd h (by decide)
 ·exact ⟨(c+1).toNat,rfl,by omega,by omega,by omega⟩
structure WkOk (m:Works):Prop where
 own:Own 32 m.ids m.l
 nd:(m.wh.map Prod.fst).Nodup
 wh:∀ d c,mget m.wh d=some c ↔ -1≤c∧d∈m.l.getD (c+1).toNat []
theorem WkOk.keys {m:Works} (h:WkOk m):(m.wh.map Prod.fst).Perm m.l.flatten:=by
 refine (List.perm_ext_iff_of_nodup h.nd h.own.nd).2 fun d=>?_
 rw [← mget_some_iff,mem_flat]
 constructor
 ·intro hs
  cases hg:mget m.wh d with
  | none=>rw [hg] at hs;exact absurd hs (by decide)
  | some c =>
   obtain ⟨h1,h2⟩:=(h.wh d c).1 hg
   exact ⟨(c+1).toNat,getD_lt h2,h2⟩
 ·rintro ⟨i,hi,hm⟩
  rw [(h.wh d ((i:Int) - 1)).2 ⟨by omega,by rw [show ((i:Int) - 1+1).toNat=i by omega];exact hm⟩]
  rfl
theorem WkOk.start (cpus:Nat):WkOk (works0 cpus):=by
 refine ⟨Own.start 32 (cpus+1),List.nodup_nil,fun d c=>?_⟩
 constructor
 ·intro h;cases h
 ·rintro ⟨-,h⟩
  simp only [works0,List.getD_eq_getElem?_getD,List.getElem?_replicate] at h
  split at h <;> simp at h
theorem WkOk.of {m:Works} (h:WkOk m) {d:Int} {i:Nat} (hd:d∈m.l.getD i []):mget m.wh d=some ((i:Int) - 1) :=
 (h.wh d _).2 ⟨by omega,by rw [show ((i:Int) - 1+1).toNat=i by omega];exact hd⟩
theorem WkOk.queue {m:Works} (h:WkOk m) (cpu:Int) :
  WkOk (worksQueue m cpu).1∧(worksQueue m cpu).1.l.length=m.l.length∧(((worksQueue m cpu).2.2≠0∧(worksQueue m cpu).1=m) ∨
   ((worksQueue m cpu).2.2=0∧mget m.wh (worksQueue m cpu).2.1=none∧(worksQueue m cpu).1.wh=mput m.wh (worksQueue m cpu).2.1 cpu)):=by
 unfold worksQueue
 split
 ·exact ⟨h,rfl,.inl ⟨(by decide:(3:Int)≠0),rfl⟩⟩
 rename_i hm
 obtain ⟨i,hi0,hi1,hlo,hi⟩:=wMay_yes (.inl rfl) (Classical.not_not.1 hm)
 rw [hi0]
 by_cases he:(slotTake 32 m.ids).2.2=0
 ·rw [if_neg (by simp [he])]
  unfold worksQueueTo
  obtain ⟨o1,o2,o3,o4⟩:=h.own.take (L':=m.l.set i (m.l.getD i []++[(slotTake 32 m.ids).2.1])) (by omega) he (flat_add _ i _ hi)
  generalize (slotTake 32 m.ids).2.1=id at *
  have hn:id ∉ m.l.getD i []:=fun e=>o2 ((sub_flat _ i).subset e)
  rw [h.own.room ⟨o3,by omega⟩ hn];dsimp only
  have hw:mget m.wh id=none:=by
   cases hg:mget m.wh id with
   | none=>rfl
   | some c=>exact absurd ((sub_flat _ _).subset ((h.wh id c).1 hg).2) o2
  refine ⟨⟨o1,mput_nodup h.nd,fun d c=>?_⟩,by simp,.inr ⟨rfl,hw,rfl⟩⟩
  show mget (mput m.wh id cpu) d=some c ↔ -1≤c∧d∈(m.l.set i (m.l.getD i []++[id])).getD (c+1).toNat []
  rw [mput_get]
  by_cases e:id=d
  ·subst e
   rw [if_pos rfl]
   constructor
   ·intro hc
    have hc:cpu=c:=by simpa using hc
    subst hc
    exact ⟨hlo,by rw [hi0,nth_in hi];simp⟩
   ·rintro ⟨hc,hc2⟩
    by_cases e2:i=(c+1).toNat
    ·have:cpu=c:=by omega
     rw [this]
    ·rw [nth_off e2] at hc2
     exact absurd ((sub_flat _ _).subset hc2) o2
  ·rw [if_neg e,h.wh]
   refine and_congr_right fun hc=>?_
   by_cases e2:i=(c+1).toNat
   ·rw [← e2,nth_in hi]
    simp [Ne.symm e]
   ·rw [nth_off e2]
 ·rw [if_pos he]
  dsimp only;rw [slotTake_bad he]
  exact ⟨h,rfl,.inl ⟨he,rfl⟩⟩
theorem WkOk.drop {m:Works} (h:WkOk m) {d:Int} (hs:(mget m.wh d).isSome=true) :
  WkOk (worksDrop m d).1∧(worksDrop m d).1.l.length=m.l.length∧(worksDrop m d).2=0∧(worksDrop m d).1.wh=mdel m.wh d:=by
 unfold worksDrop
 cases hg:mget m.wh d with
 | none=>rw [hg] at hs;exact absurd hs (by decide)
 | some v =>
  obtain ⟨hv,hmem⟩:=(h.wh d v).1 hg
  have hi:=getD_lt hmem
  dsimp only
  obtain ⟨i,hi0⟩:∃ i,i=(v+1).toNat:=⟨_,rfl⟩
  rw [← hi0] at hmem hi ⊢
  have hd:dropF (m.l.getD i []) d=((m.l.getD i []).erase d,0):=by unfold dropF;rw [if_pos hmem]
  rw [hd]
  obtain ⟨o1,o2⟩:=h.own.give (L':=m.l.set i ((m.l.getD i []).erase d)) (by omega) ((sub_flat _ i).subset hmem) (flat_drop hi hmem)
  refine ⟨⟨o1,mdel_nodup h.nd,fun x c=>?_⟩,by simp,rfl,rfl⟩
  show mget (mdel m.wh d) x=some c ↔ -1≤c∧x∈(m.l.set i ((m.l.getD i []).erase d)).getD (c+1).toNat []
  rw [mdel_get h.nd]
  by_cases e:d=x
  ·subst e
   rw [if_pos rfl]
   constructor
   ·intro hc;cases hc
   ·rintro ⟨hc,hc2⟩
    by_cases e2:i=(c+1).toNat
    ·rw [← e2,nth_in hi,(h.own.nodup i).mem_erase_iff] at hc2
     exact absurd rfl hc2.1
    ·rw [nth_off e2] at hc2
     exact absurd (flat_once h.own.nd hmem hc2) e2
  ·rw [if_neg e,h.wh]
   refine and_congr_right fun hc=>?_
   by_cases e2:i=(c+1).toNat
   ·rw [← e2,nth_in hi,(h.own.nodup i).mem_erase_iff]
    exact ⟨fun hx=>⟨fun e3=>e e3.symm,hx⟩,fun hx=>hx.2⟩
   ·rw [nth_off e2]
theorem head_mem {l:List Int} (h:l≠[]):l.headD 0∈l:=by
 cases l with
 | nil=>exact absurd rfl h
 | cons a t=>simp
theorem WkOk.take {m:Works} (h:WkOk m) (cpu:Int) :
  ((worksTake m cpu).2.2≠0∧(worksTake m cpu).1=m∧(worksTake m cpu).2.1=0∧(wMay m.l.length cpu 0=0→worksLoad m cpu+worksLoad m (-1)=0)) ∨
  ((mget m.wh (worksTake m cpu).2.1).isSome=true∧(worksTake m cpu).2.2=0∧(worksTake m cpu).1=(worksDrop m (worksTake m cpu).2.1).1):=by
 unfold worksTake
 split
 ·rename_i hm
  exact .inl ⟨(by decide:(3:Int)≠0),rfl,rfl,fun e=>absurd e hm⟩
 rename_i hm
 split
 ·rename_i hl
  right
  have:=h.of (head_mem hl)
  exact ⟨by rw [this];rfl,(h.drop (by rw [this];rfl)).2.2.1,rfl⟩
 rename_i hl
 split
 ·rename_i hl2
  right
  have:=h.of (head_mem hl2)
  exact ⟨by rw [this];rfl,(h.drop (by rw [this];rfl)).2.2.1,rfl⟩
 rename_i hl2
 refine .inl ⟨(by decide:(12:Int)≠0),rfl,rfl,fun _=>?_⟩
 have e1:m.l.getD (cpu+1).toNat []=[]:=Classical.not_not.1 hl
 have e2:m.l.getD 0 []=[]:=Classical.not_not.1 hl2
 have e3:worksList m cpu=[]:=by unfold worksList;split;rfl;exact e1
 have e4:worksList m (-1)=[]:=by unfold worksList;split;rfl;exact e2
 unfold worksLoad;rw [e3,e4]
 rfl
theorem WkOk.unbind {m:Works} (h:WkOk m) (cpu:Int) :
  WkOk (worksUnbind m cpu).1∧(worksUnbind m cpu).1.l.length=m.l.length∧(worksUnbind m cpu).1.wh.map Prod.fst=m.wh.map Prod.fst:=by
 unfold worksUnbind
 split
 ·exact ⟨h,rfl,rfl⟩
 rename_i hm
 obtain ⟨i,hi0,hi1,hlo,hi⟩:=wMay_yes (.inr rfl) (Classical.not_not.1 hm)
 rw [hi0]
 have hipos:i≠0:=by omega
 cases hl:m.l.getD i [] with
 | nil =>
  have e:m.l.set i []=m.l:=by rw [← hl];exact put_same _ _ _ hi
  simp only [popF,e]
  exact ⟨h,rfl,rfl⟩
 | cons x t =>
  simp only [popF,ne_eq,not_true,if_false]
  unfold worksUnbindTo;dsimp only
  have hmem:x∈m.l.getD i []:=by rw [hl];simp
  have et:t=(m.l.getD i []).erase x:=by rw [hl];simp
  have hn0:x ∉ m.l.getD 0 []:=fun e=>hipos (flat_once h.own.nd hmem e)
  rw [nth_off hipos,h.own.room (h.own.rng ((sub_flat _ i).subset hmem)) hn0];dsimp only;rw [et]
  have hperm:((m.l.set i ((m.l.getD i []).erase x)).set 0 (m.l.getD 0 []++[x])).flatten.Perm m.l.flatten:=by
   have p1:=flat_add (m.l.set i ((m.l.getD i []).erase x)) 0 x (by simp;omega)
   rw [nth_off hipos] at p1
   have p2:=flat_drop hi hmem
   exact p1.trans ((p2.append_right [x]).trans (List.perm_append_comm.trans (List.perm_cons_erase ((sub_flat _ i).subset hmem)).symm))
  have hw:=h.of hmem
  refine ⟨⟨h.own.perm hperm,mput_nodup h.nd,fun d c=>?_⟩,by simp,mput_keys_old (by rw [hw];rfl)⟩
  show mget (mput m.wh x (-1)) d=some c ↔ -1≤c∧d∈((m.l.set i ((m.l.getD i []).erase x)).set 0 (m.l.getD 0 []++[x])).getD (c+1).toNat []
  rw [mput_get]
  by_cases e:x=d
  ·subst e
   rw [if_pos rfl]
   constructor
   ·intro hc
    have hc:(-1:Int)=c:=by simpa using hc
    subst hc
    refine ⟨by omega,?_⟩
    rw [show ((-1:Int)+1).toNat=0 from rfl,nth_in (by simp;omega)]
    simp
   ·rintro ⟨hc,hc2⟩
    by_cases e2:0=(c+1).toNat
    ·have:(-1:Int)=c:=by omega
     rw [this]
    ·rw [nth_off e2] at hc2
     by_cases e3:i=(c+1).toNat
     ·rw [← e3,nth_in hi,(h.own.nodup i).mem_erase_iff] at hc2
      exact absurd rfl hc2.1
     ·rw [nth_off e3] at hc2
      exact absurd (flat_once h.own.nd hmem hc2) e3
  ·rw [if_neg e,h.wh]
   refine and_congr_right fun hc=>?_
   by_cases e2:0=(c+1).toNat
   ·rw [← e2,nth_in (by simp;omega)]
    simp [Ne.symm e]
   ·rw [nth_off e2]
    by_cases e3:i=(c+1).toNat
    ·rw [← e3,nth_in hi,(h.own.nodup i).mem_erase_iff]
     exact ⟨fun hx=>⟨fun e4=>e e4.symm,hx⟩,fun hx=>hx.2⟩
    ·rw [nth_off e3]
def BxOk (m:Box):Prop:=Own 32 m.ids m.l
theorem BxOk.start (cpus:Nat):BxOk (box0 cpus):=Own.start 32 cpus
theorem BxOk.send {m:Box} (h:BxOk m) (cpu:Int) :
  BxOk (boxSend m cpu).1∧(boxSend m cpu).1.l.length=m.l.length∧(((boxSend m cpu).2.2≠0∧(boxSend m cpu).1=m) ∨
   ((boxSend m cpu).2.2=0∧(boxSend m cpu).1.l.flatten.Perm (m.l.flatten++[(boxSend m cpu).2.1]))):=by
 unfold boxSend
 split
 ·exact ⟨h,rfl,.inl ⟨(by decide:(3:Int)≠0),rfl⟩⟩
 rename_i hm
 obtain ⟨i,rfl,hi⟩:=may_yes (Classical.not_not.1 hm)
 rw [Int.toNat_natCast]
 by_cases he:(slotTake 32 m.ids).2.2=0
 ·rw [if_neg (by simp [he])]
  unfold boxSendTo
  have hp:=flat_add m.l i (slotTake 32 m.ids).2.1 hi
  obtain ⟨o1,o2,o3,o4⟩:=Own.take (L':=m.l.set i (m.l.getD i []++[(slotTake 32 m.ids).2.1])) (by omega) h he hp
  generalize (slotTake 32 m.ids).2.1=id at *
  have hn:id ∉ m.l.getD i []:=fun e=>o2 ((sub_flat _ i).subset e)
  rw [Own.room h ⟨o3,by omega⟩ hn]
  exact ⟨o1,by simp,.inr ⟨rfl,hp⟩⟩
 ·rw [if_pos he]
  dsimp only;rw [slotTake_bad he]
  exact ⟨h,rfl,.inl ⟨he,rfl⟩⟩
theorem BxOk.take {m:Box} (h:BxOk m) (cpu:Int) :
  BxOk (boxTake m cpu).1∧(boxTake m cpu).1.l.length=m.l.length∧(((boxTake m cpu).1=m∧(boxTake m cpu).2.1=0∧boxLoad m cpu=0) ∨
   ((boxTake m cpu).2.1∈m.l.flatten∧(boxTake m cpu).1.l.flatten.Perm (m.l.flatten.erase (boxTake m cpu).2.1))):=by
 unfold boxTake boxLoad boxList
 split
 ·rename_i hm
  exact ⟨h,rfl,.inl ⟨rfl,rfl,rfl⟩⟩
 rename_i hm
 obtain ⟨i,rfl,hi⟩:=may_yes (Classical.not_not.1 hm)
 rw [Int.toNat_natCast]
 cases hl:m.l.getD i [] with
 | nil =>
  have e:m.l.set i []=m.l:=by rw [← hl];exact put_same _ _ _ hi
  simp only [popF,e]
  exact ⟨h,rfl,.inl ⟨rfl,rfl,rfl⟩⟩
 | cons x t =>
  simp only [popF,ne_eq,not_true,if_false]
  unfold boxTakeTo;dsimp only
  have hmem:x∈m.l.getD i []:=by rw [hl];simp
  have et:t=(m.l.getD i []).erase x:=by rw [hl];simp
  rw [et]
  have hp:=flat_drop hi hmem
  have hf:=(sub_flat m.l i).subset hmem
  exact ⟨(Own.give (by omega) h hf hp).1,by simp,.inr ⟨hf,hp⟩⟩
theorem BxOk.move {m:Box} (h:BxOk m) (a b:Int) :
  BxOk (boxMove m a b).1∧(boxMove m a b).1.l.length=m.l.length∧(boxMove m a b).1.l.flatten.Perm m.l.flatten:=by
 unfold boxMove
 split
 ·exact ⟨h,rfl,List.Perm.refl _⟩
 rename_i hm
 have hm2:may2 m.l.length a b=0:=Classical.not_not.1 hm
 clear hm;unfold may2 at hm2
 have ha:mayF m.l.length a=0:=Classical.byContradiction fun e=>by
  rw [if_pos e] at hm2
  exact e hm2
 rw [if_neg (by simp [ha])] at hm2
 obtain ⟨i,rfl,hi⟩:=may_yes ha
 obtain ⟨j,rfl,hj⟩:=may_yes hm2
 split
 ·exact ⟨h,rfl,List.Perm.refl _⟩
 rename_i hne
 have hne:i≠j:=fun e=>hne (by rw [e])
 rw [Int.toNat_natCast,Int.toNat_natCast]
 cases hl:m.l.getD i [] with
 | nil =>
  have e:m.l.set i []=m.l:=by rw [← hl];exact put_same _ _ _ hi
  simp only [popF,e]
  exact ⟨h,rfl,List.Perm.refl _⟩
 | cons x t =>
  simp only [popF,ne_eq,not_true,if_false]
  unfold boxMoveTo;dsimp only
  have hmem:x∈m.l.getD i []:=by rw [hl];simp
  have et:t=(m.l.getD i []).erase x:=by rw [hl];simp
  have hf:=(sub_flat m.l i).subset hmem
  have hnj:x ∉ m.l.getD j []:=fun e=>hne (flat_once h.nd hmem e)
  rw [nth_off hne,Own.room h (h.rng hf) hnj];dsimp only;rw [et]
  have hperm:((m.l.set i ((m.l.getD i []).erase x)).set j (m.l.getD j []++[x])).flatten.Perm m.l.flatten:=by
   have p1:=flat_add (m.l.set i ((m.l.getD i []).erase x)) j x (by simp;omega)
   rw [nth_off hne] at p1
   have p2:=flat_drop hi hmem
   exact p1.trans ((p2.append_right [x]).trans (List.perm_append_comm.trans (List.perm_cons_erase hf).symm))
  exact ⟨Own.perm h hperm,by simp,hperm⟩
def thT (t:Threads) (id:Int):Option (Bool × Int):=(mget t.all id).map fun x=>(x.sleeps,x.timer)
structure ThOk (th:Threads) (own wh:List (Int × Int)):Prop where
 ids:Own 32 th.ids [th.all.map Prod.fst]
 nd:(own.map Prod.fst).Nodup
 slp:∀ id t,thT th id=some (true,t)→mget own t=some id∧(mget wh t).isSome=true∧1≤t
 own:∀ t id,mget own t=some id→thT th id=some (true,t)
 awk:∀ id t,thT th id=some (false,t)→t=0
theorem ThOk.start (cpus:Int) (wh:List (Int × Int)):ThOk ⟨⟨0,0⟩,cpus,[]⟩ [] wh :=
 ⟨Own.start 32 1,List.nodup_nil,fun id t h=>by simp [thT,mget] at h,fun t id h=>by simp [mget] at h,fun id t h=>by simp [thT,mget] at h⟩
theorem ThOk.keys {th:Threads} {own wh:List (Int × Int)} (h:ThOk th own wh):(th.all.map Prod.fst).Nodup:=by
 have:=h.ids.nd
 simpa using this
theorem ThOk.id_in {th:Threads} {own wh:List (Int × Int)} (h:ThOk th own wh) {id:Int} (hs:(mget th.all id).isSome=true):1≤id∧id≤32 :=
 h.ids.rng (by simpa using mget_some_iff.1 hs)
theorem ThOk.own_pos {th:Threads} {own wh:List (Int × Int)} (h:ThOk th own wh) {t id:Int} (ho:mget own t=some id):1≤id∧(mget wh t).isSome=true:=by
 have h1:=h.own t id ho
 have h2:=h.slp id t h1
 refine ⟨?_,h2.2.1⟩
 have hs:(mget th.all id).isSome=true:=by
  unfold thT at h1
  cases hg:mget th.all id with
  | none=>rw [hg] at h1;cases h1
  | some x=>rfl
 exact (h.id_in hs).1
theorem ThOk.same {th th':Threads} {own wh:List (Int × Int)} (h:ThOk th own wh) (hi:th'.ids=th.ids) (hk:th'.all.map Prod.fst=th.all.map Prod.fst) (ht:∀ id,thT th' id=thT th id):ThOk th' own wh :=
 ⟨by rw [hi,hk];exact h.ids,h.nd,fun id t e=>h.slp id t (by rw [← ht];exact e),fun t id e=>by rw [ht];exact h.own t id e,fun id t e=>h.awk id t (by rw [← ht];exact e)⟩
theorem thT_put (th:Threads) (id:Int) (x:Thread) (j:Int):thT ⟨th.ids,th.cpus,mput th.all id x⟩ j=if id=j then some (x.sleeps,x.timer) else thT th j:=by
 unfold thT;dsimp only;rw [mput_get]
 split
 ·rfl
 ·rfl
theorem ThOk.place {th:Threads} {own wh:List (Int × Int)} (h:ThOk th own wh) (id cpu:Int) (fo:Bool):ThOk (thPlace th id cpu fo).1 own wh:=by
 unfold thPlace
 cases hg:mget th.all id with
 | none=>exact h
 | some x =>
  dsimp only
  split
  ·exact h
  ·refine h.same rfl (mput_keys_old (by rw [hg];rfl)) fun j=>?_
   rw [thT_put]
   split
   ·rename_i e
    subst e
    simp [thT,hg]
   ·rfl
theorem ThOk.wheres {th:Threads} {own wh wh':List (Int × Int)} (h:ThOk th own wh) (hw:∀ t,(mget own t).isSome=true→(mget wh t).isSome=true→(mget wh' t).isSome=true):ThOk th own wh' :=
 ⟨h.ids,h.nd,fun id t e=>by obtain ⟨a,b,c⟩:=h.slp id t e;exact ⟨a,hw t (by rw [a];rfl) b,c⟩,h.own,h.awk⟩
theorem ThOk.sleep {th:Threads} {own wh:List (Int × Int)} (h:ThOk th own wh) {id t:Int} {x:Thread} (hx:mget th.all id=some x) (hs:x.sleeps=false) (hw:mget wh t=none) (ht:1≤t) (cpu:Int) :
  (thSleep th id t).2=0∧ThOk (thSleep th id t).1 (mput own t id) (mput wh t cpu):=by
 have hno:mget own t=none:=by
  cases ho:mget own t with
  | none=>rfl
  | some j=>have:=(h.own_pos ho).2;rw [hw] at this;exact absurd this (by decide)
 unfold thSleep;rw [hx];dsimp only
 rw [if_neg (by simp [hs])]
 have hT:∀ j,thT ⟨th.ids,th.cpus,mput th.all id ⟨x.prio,x.mask,x.cpu,x.forced,true,t⟩⟩ j=if id=j then some (true,t) else thT th j:=fun j=>thT_put th id _ j
 refine ⟨rfl,⟨?_,mput_nodup h.nd,fun j u e=>?_,fun u j e=>?_,fun j u e=>?_⟩⟩
 ·show Own 32 th.ids [(mput th.all id _).map Prod.fst]
  rw [mput_keys_old (by rw [hx];rfl)]
  exact h.ids
 ·rw [hT] at e
  split at e
  ·rename_i ej
   simp only [Option.some.injEq,Prod.mk.injEq,true_and] at e
   subst e ej
   exact ⟨by rw [mput_get];simp,by rw [mput_get];simp,ht⟩
  ·obtain ⟨a,b,c⟩:=h.slp j u e
   have hne:¬ t=u:=fun eu=>by rw [eu,a] at hno;cases hno
   exact ⟨by rw [mput_get,if_neg hne];exact a,by rw [mput_get,if_neg hne];exact b,c⟩
 ·rw [mput_get] at e
  rw [hT]
  split at e
  ·rename_i eu
   have e:id=j:=by simpa using e
   subst e eu
   simp
  ·have:=h.own u j e
   have hne:¬ id=j:=fun ej=>by
    subst ej
    simp [thT,hx,hs] at this
   rw [if_neg hne]
   exact this
 ·rw [hT] at e
  split at e
  ·cases e
  ·exact h.awk j u e
theorem ThOk.less {th:Threads} {own wh:List (Int × Int)} (h:ThOk th own wh) (hn:(wh.map Prod.fst).Nodup) {t:Int} (ho:mget own t=none):ThOk th own (mdel wh t)∧ThOk th (mdel own t) (mdel wh t):=by
 have h1:ThOk th own (mdel wh t):=h.wheres fun u hu hw=>by
  rw [mdel_get hn]
  split
  ·rename_i e;rw [← e,ho] at hu;exact absurd hu (by decide)
  ·exact hw
 refine ⟨h1,?_⟩
 rw [mdel_none ho]
 exact h1
theorem ThOk.wake {th:Threads} {own wh:List (Int × Int)} (h:ThOk th own wh) (hn:(wh.map Prod.fst).Nodup) {id t:Int} (ho:mget own t=some id):ThOk (thWake th id).1 (mdel own t) (mdel wh t):=by
 have h1:=h.own t id ho
 have hx:∃ x,mget th.all id=some x∧x.sleeps=true∧x.timer=t:=by
  unfold thT at h1
  cases hg:mget th.all id with
  | none=>rw [hg] at h1;cases h1
  | some x=>rw [hg] at h1;exact ⟨x,rfl,by simpa using h1⟩
 obtain ⟨x,hx,hs,htm⟩:=hx;unfold thWake;rw [hx];dsimp only;rw [if_pos hs]
 have hT:∀ j,thT ⟨th.ids,th.cpus,mput th.all id ⟨x.prio,x.mask,x.cpu,x.forced,false,0⟩⟩ j=if id=j then some (false,0) else thT th j:=fun j=>thT_put th id _ j
 refine ⟨?_,mdel_nodup h.nd,fun j u e=>?_,fun u j e=>?_,fun j u e=>?_⟩
 ·show Own 32 th.ids [(mput th.all id _).map Prod.fst]
  rw [mput_keys_old (by rw [hx];rfl)]
  exact h.ids
 ·rw [hT] at e
  split at e
  ·cases e
  ·rename_i hne
   obtain ⟨a,b,c⟩:=h.slp j u e
   have hne2:¬ t=u:=fun eu=>by subst eu;rw [ho] at a;exact hne (by simpa using a)
   exact ⟨by rw [mdel_get h.nd,if_neg hne2];exact a,by rw [mdel_get hn,if_neg hne2];exact b,c⟩
 ·rw [mdel_get h.nd] at e
  rw [hT]
  split at e
  ·cases e
  ·rename_i hne
   have hne2:¬ id=j:=fun ej=>by
    subst ej
    have:=h.own u id e
    rw [h1] at this
    exact hne (by simpa using this)
   rw [if_neg hne2]
   exact h.own u j e
 ·rw [hT] at e
  split at e
  ·simpa using e.symm
  ·exact h.awk j u e
theorem ThOk.exit {th:Threads} {own wh:List (Int × Int)} (h:ThOk th own wh) {id:Int} {x:Thread} (hx:mget th.all id=some x) (hs:x.sleeps=false):(thExit th id).2=0∧ThOk (thExit th id).1 own wh:=by
 have hmem:id∈[th.all.map Prod.fst].flatten:=by simpa using mget_some_iff.1 (by rw [hx];rfl)
 unfold thExit;rw [hx];dsimp only
 obtain ⟨o1,o2⟩:=h.ids.give (L':=[(mdel th.all id).map Prod.fst]) (by omega) hmem (by rw [mdel_keys];simp)
 have hT:∀ j,thT ⟨(slotGive 32 th.ids id).1,th.cpus,mdel th.all id⟩ j=if id=j then none else thT th j:=fun j=>by
  unfold thT;dsimp only;rw [mdel_get h.keys]
  split <;> rfl
 refine ⟨o2,o1,h.nd,fun j u e=>?_,fun u j e=>?_,fun j u e=>?_⟩
 ·rw [hT] at e
  split at e
  ·cases e
  ·exact h.slp j u e
 ·rw [hT]
  have h1:=h.own u j e
  rw [if_neg (fun ej=>by subst ej;simp [thT,hx,hs] at h1)]
  exact h1
 ·rw [hT] at e
  split at e
  ·cases e
  ·exact h.awk j u e
theorem ThOk.exit_asleep {th:Threads} {own wh:List (Int × Int)} (h:ThOk th own wh) (hn:(wh.map Prod.fst).Nodup) {id:Int} {x:Thread} (hx:mget th.all id=some x) (hs:x.sleeps=true):(thExit th id).2=0∧ThOk (thExit th id).1 (mdel own x.timer) (mdel wh x.timer):=by
 have h1:thT th id=some (true,x.timer):=by simp [thT,hx,hs]
 have ho:=(h.slp id x.timer h1).1
 have hw:=h.wake hn ho
 have hx2:(thWake th id).1=⟨th.ids,th.cpus,mput th.all id ⟨x.prio,x.mask,x.cpu,x.forced,false,0⟩⟩:=by simp [thWake,hx,hs]
 have hg:mget (thWake th id).1.all id=some ⟨x.prio,x.mask,x.cpu,x.forced,false,0⟩:=by rw [hx2];dsimp only;rw [mput_get];simp
 have h2:=hw.exit hg rfl
 have e:thExit (thWake th id).1 id=thExit th id:=by
  unfold thExit;rw [hg,hx,hx2];dsimp only
  congr 2
  exact mdel_mput (by rw [hx];rfl)
 rw [e] at h2
 exact h2
theorem ThOk.spawn {th:Threads} {own wh:List (Int × Int)} (h:ThOk th own wh) (prio:Int) (m:Nat):ThOk (thSpawn th prio m).1 own wh∧((thSpawn th prio m).2.2=0→1≤(thSpawn th prio m).2.1):=by
 unfold thSpawn
 split
 ·exact ⟨h,fun e=>absurd e (show (2:Int)≠0 by decide)⟩
 by_cases he:(slotTake 32 th.ids).2.2=0
 ·rw [if_neg (by simp [he])]
  dsimp only
  have hp:∀ id,mget th.all id=none→[(mput th.all id (⟨prio,m,0,false,false,0⟩:Thread)).map Prod.fst].flatten.Perm ([th.all.map Prod.fst].flatten++[id]):=fun id hn=>by
   rw [mput_keys_new hn]
   simp
  have hn:mget th.all (slotTake 32 th.ids).2.1=none:=by
   obtain ⟨c,h1,h2,h3,h4⟩:=slotTake_ok (by omega) h.ids.ok he
   cases hg:mget th.all (slotTake 32 th.ids).2.1 with
   | none=>rfl
   | some x =>
    have hm:(slotTake 32 th.ids).2.1∈[th.all.map Prod.fst].flatten:=by simpa using mget_some_iff.1 (by rw [hg];rfl)
    rw [h3] at hm
    obtain ⟨j,-,j2,j3⟩:=slotHas_iff.1 ((h.ids.mem _).2 hm)
    have:j=c:=by have j2:(c:Int)+1=j+1:=j2;omega
    rw [this,h2] at j3
    exact absurd j3 (by decide)
  obtain ⟨o1,o2,o3,o4⟩:=h.ids.take (L':=[(mput th.all (slotTake 32 th.ids).2.1 (⟨prio,m,0,false,false,0⟩:Thread)).map Prod.fst]) (by omega) he (hp _ hn)
  generalize (slotTake 32 th.ids).2.1=id at *
  have hT:∀ j,thT ⟨(slotTake 32 th.ids).1,th.cpus,mput th.all id ⟨prio,m,0,false,false,0⟩⟩ j=if id=j then some (false,0) else thT th j:=fun j=>by
   unfold thT;dsimp only;rw [mput_get]
   split <;> rfl
  refine ⟨⟨o1,h.nd,fun j u e=>?_,fun u j e=>?_,fun j u e=>?_⟩,fun _=>o3⟩
  ·rw [hT] at e
   split at e
   ·cases e
   ·exact h.slp j u e
  ·have h1:=h.own u j e
   rw [hT,if_neg (fun ej=>by subst ej;simp [thT,hn] at h1)]
   exact h1
  ·rw [hT] at e
   split at e
   ·simpa using e.symm
   ·exact h.awk j u e
 ·rw [if_pos he]
  dsimp only;rw [slotTake_bad he]
  exact ⟨h,fun e=>absurd e he⟩
theorem KAt.gl (h:KAt w F p f k):k.gv.length=k.cpus:=by
 obtain ⟨c,h⟩:=h
 exact h.gl
theorem KAt.gopen (h:KAt w F p f k):∃ g gc,f.gv=.slice (some ⟨g,0,none⟩) k.cpus gc∧k.cpus≤gc∧gc≤maxLen∧F g∧∀ j,j < k.cpus→w.cell? ⟨g,j,none⟩=some (.pointer (some ⟨f.gp j,0,none⟩)):=by
 obtain ⟨c,h⟩:=h
 obtain ⟨g,cap,h1,h2,h3,h4,_,h5,_⟩:=h.row.open h.n1
 exact ⟨g,cap,h1,h2,h3,h4.1,fun j hj=>h5 j _ (ptrL_get hj)⟩
theorem KAt.kvset (h:KAt w F p f k) (i:Nat) (hi:i < k.cpus) (lo hi':Int):Calls prog 246 #[.pointer (some ⟨f.gp i,0,none⟩),.int .i64 lo,.int .i64 hi'] w fun e w'=>e=.returned (.int .i64 (if rightG lo hi' then 0 else 2))∧KS w w' F p f { k with gv:=k.gv.set i (if rightG lo hi' then (lo,hi') else k.gv.getD i (0,0)) }:=by
 obtain ⟨c,H⟩:=h
 have hg:i < k.gv.length:=by rw [H.gl];exact hi
 refine (vset_any w (H.gs i hg) lo hi').mono ?_
 rintro e w' ⟨he,h1,h2,-⟩
 exact ⟨he,(H.t_gs hg (h1.mono Plus.sub) h2).turned h2⟩
theorem KAt.kvfeed (h:KAt w F p f k) (i:Nat) (hi:i < k.cpus) (busy all:Int):Calls prog 210 #[.pointer (some ⟨f.gp i,0,none⟩),.int .i64 busy,.int .i64 all] w fun e w'=>Fed e∧KS w w' F p f k:=by
 obtain ⟨c,H⟩:=h
 have hg:i < k.gv.length:=by rw [H.gl];exact hi
 refine (vfeed_any w (H.gs i hg) busy all).mono ?_
 rintro e w' ⟨he,h1,h2⟩
 have:=(H.t_gs hg (h1.mono Plus.sub) h2).turned h2
 rw [set_same hg] at this
 exact ⟨he,this⟩
theorem KAt.kmwork (h:KAt w F p f k) (cpu ticks power:Int):Calls prog 212 #[.pointer (some ⟨f.pt 13,0,none⟩),.int .i64 cpu,.int .i64 ticks,.int .i64 power] w fun e w'=>Told e∧KS w w' F p f k:=by
 obtain ⟨c,H⟩:=h;refine (mwork_any w H.mt cpu ticks power).mono ?_;rintro e w' ⟨he,h1,h2⟩
 exact ⟨he,(H.t_mt (h1.mono Plus.sub) h2).turned h2⟩
theorem KAt.kmrest (h:KAt w F p f k) (cpu way ticks power:Int):Calls prog 211 #[.pointer (some ⟨f.pt 13,0,none⟩),.int .i64 cpu,.int .i64 way,.int .i64 ticks,.int .i64 power] w fun e w'=>Told e∧KS w w' F p f k:=by
 obtain ⟨c,H⟩:=h;refine (mrest_any w H.mt cpu way ticks power).mono ?_;rintro e w' ⟨he,h1,h2⟩
 exact ⟨he,(H.t_mt (h1.mono Plus.sub) h2).turned h2⟩
def mapTo {α:Type} (g:α→α) (l:List α) (j:Nat):List α:=(l.take j).map g++l.drop j
theorem mapTo_len {α:Type} (g:α→α) (l:List α) (j:Nat):(mapTo g l j).length=l.length:=by simp [mapTo];omega
theorem mapTo_zero {α:Type} (g:α→α) (l:List α):mapTo g l 0=l:=by simp [mapTo]
theorem mapTo_all {α:Type} (g:α→α) (l:List α):mapTo g l l.length=l.map g:=by simp [mapTo]
theorem mapTo_get {α:Type} (g:α→α) (l:List α) (j:Nat) (d:α) (hj:j < l.length):(mapTo g l j).getD j d=l.getD j d:=by
 unfold mapTo
 have e:(List.map g (l.take j)).length=j:=by simp;omega
 rw [List.getD_eq_getElem?_getD,List.getElem?_append_right (by omega),e,Nat.sub_self,List.getElem?_drop,Nat.add_zero,List.getD_eq_getElem?_getD]
theorem mapTo_step {α:Type} (g:α→α) (l:List α) (j:Nat) (d:α) (hj:j < l.length):(mapTo g l j).set j (g (l.getD j d))=mapTo g l (j+1):=by
 unfold mapTo
 have e:(List.map g (l.take j)).length=j:=by simp;omega
 have hg:l[j]? = some (l.getD j d):=by rw [List.getD_eq_getElem?_getD,List.getElem?_eq_getElem hj];rfl
 rw [List.set_append_right _ _ (by omega),e,Nat.sub_self,List.take_add_one,hg]
 have hd:l.drop j=l.getD j d::l.drop (j+1):=by
  rw [List.drop_eq_getElem_cons hj]
  congr 1
  rw [List.getD_eq_getElem?_getD,List.getElem?_eq_getElem hj]
  rfl
 rw [hd,List.set_cons_zero]
 simp
def speedG (lo hi:Int) (s:Int × Int):Int × Int:=if rightG lo hi then (lo,hi) else s
def speedTo (k:K) (lo hi:Int) (j:Nat):K:={ k with gv:=mapTo (speedG lo hi) k.gv j }
def speedWhy (lo hi:Int) (j:Nat):Int:=if j=0 then 0 else if rightG lo hi then 0 else 2
def kSpeed (k:K) (lo hi:Int):K:=speedTo k lo hi k.cpus
def kSpeedR (k:K) (lo hi:Int):Int:=speedWhy lo hi k.cpus
theorem KAt.kspeed (h:KAt w F p f k) (lo hi:Int):Calls prog 171 #[.pointer (some ⟨p,0,none⟩),.int .i64 lo,.int .i64 hi] w fun e w'=>e=.returned (.int .i64 (kSpeedR k lo hi))∧KS w w' F p f (kSpeed k lo hi):=by
 have hgl:=h.gl;obtain ⟨g,gc,hgv,hle,hgm,-,-⟩:=h.gopen;have c14:=h.hgv;rw [hgv] at c14;replace hgv:=Hd hgv;have hn64:=h.n64;have H0:=Hd h;have HK:=Hd h;have HL:=Hd (Lk.refl w F);clear h;unfold kSpeedR kSpeed
 obtain ⟨n,hn⟩:∃ n,n=k.cpus:=⟨_,rfl⟩
 rw [← hn] at c14 hle hn64 hgl ⊢;replace hn:=Hd hn
 go_enter func171,ntmps171
 go_wp2
 go_loopw [16,7,9] (fun iv yv _ wr=>∃ (j:Nat) (F':Nat→Prop),iv=.int .i64 j∧j≤n∧yv=.int .i64 (speedWhy lo hi j)∧Hid (KAt wr F' p f (speedTo k lo hi j))∧Hid (Lk w F wr F')) (fun iv _ _ _=>n - (intOf iv).toNat)
 case atStart=>exact ⟨0,F,rfl,by omega,rfl,Hd (by unfold speedTo;rw [mapTo_zero];exact HK.out),Hd (Lk.refl _ _)⟩
 case round =>
  clear HK HL;obtain ⟨j,F',rfl,hj,rfl,HK,HL⟩:=hrel
  by_cases hlt:j < n
  ·have hjl:j < k.gv.length:=by omega
   have hjc:j < k.cpus:=by rw [← hn.out];exact hlt
   obtain ⟨g2,gc2,hgv2,-,-,-,hg2⟩:=HK.out.gopen
   have hg3:=hg2 j hjc
   rw [slice_base (hgv.out.symm.trans hgv2)] at hg3;clear hg2 hgv2
   have hst:∀ s,s=speedG lo hi (k.gv.getD j (0,0))→({ (speedTo k lo hi j) with gv:=(speedTo k lo hi j).gv.set j s }:K)=speedTo k lo hi (j+1):=by
    rintro s rfl;unfold speedTo;dsimp only;rw [mapTo_step _ _ _ _ hjl]
   have B:=HK.out.kvset j hjc lo hi
   rw [hst _ (by unfold speedG speedTo;dsimp only;rw [mapTo_get _ _ _ _ hjl])] at B
   have hwy:speedWhy lo hi (j+1)=if rightG lo hi then 0 else 2:=by unfold speedWhy;rw [if_neg (by omega)]
   rw [← hwy] at B;replace B:=Hd B;clear hst;replace hwy:=Hd hwy;go_wp2_with fail;refine B.out.mono ?_;rintro e w1 ⟨rfl,S⟩;replace S:=S.nx HL.out;clear HL HK;obtain ⟨F1,HK,HL⟩:=S
   try dsimp only at HK
   go_wp2;go_roundw
   case rel=>exact ⟨j+1,_,by go_num,hlt,rfl,HK,HL⟩
   case measure=>simp [intOf];omega
  ·have:j=n:=by omega
   subst this;go_wp2;go_returns
   exact ⟨rfl,HK.out.close HL.out H0.out⟩
theorem sD {α:Type} (l:List α) (i:Nat):l.toArray[i]? = l[i]?:=List.getElem?_toArray ..
theorem sE {α:Type} (a:α) (l:List α):(a::l)[0]? = some a:=rfl
theorem sF {α:Type} (a:α) (l:List α) (n:Nat):(a::l)[n+1]? = l[n]?:=List.getElem?_cons_succ ..
def kTake (k:K) (cpu:Int):K:={ k with co:=(coreSet k.co cpu takeF).1 }
theorem KAt.kmeet (h:KAt w F p f k) (i:Nat) (hi:i < k.cpus) (c:Core) (hw:c.idle=true→0≤c.way∧c.way < 4) (ticks:Int):Calls prog 127 #[.pointer (some ⟨p,0,none⟩),.int .i64 i,.agg #[.bool c.power,.bool c.idle,.int .i64 c.way,.int .i64 c.since,.int .i64 c.steps,.int .i64 c.busy],.int .i64 ticks] w fun e w'=>e=.returned (.tuple #[])∧KS w w' F p f (kTake k i):=by
 have hn64:=h.n64;have H0:=Hd h;have HK:=Hd h;have HL:=Hd (Lk.refl w F);clear h;obtain ⟨power,idle,way,since,steps,busy⟩:=c;dsimp only at hw ⊢;unfold kTake
 have HX:=HK.out.bx HL.out #[.bool power,.bool idle,.int .i64 way,.int .i64 since,.int .i64 steps,.int .i64 busy] 32
 clear HL HK;obtain ⟨HB,HK,HL⟩:=HX
 have P:=HK.out.kctake i
 have c12:=HK.out.h12
 obtain ⟨u,hu⟩:∃ u,u=coreSet k.co i takeF:=⟨_,rfl⟩
 rw [← hu] at P ⊢;generalize coreBusy k.co i=x1 at P;generalize coreSteps k.co i=x2 at P;obtain ⟨co,x3⟩:=u;dsimp only at P ⊢;replace P:=Hd P;replace hu:=Hd hu
 cases idle with
 | false =>
  clear hw;have b1:=HB.out.cell 1
  go_enter func127,ntmps127
  go_wp2_with fail;refine P.out.mono ?_;rintro e w1 ⟨rfl,S⟩;clear P c12 b1;obtain ⟨F1,L1,K1⟩:=S.open;clear S
  try dsimp only at K1
  replace HB:=Hd (HB.out.lk L1);replace HL:=Hd (HL.out.trans L1);replace HK:=Hd K1;clear L1 K1;obtain ⟨g,gc,hgv,hle,hgm,-,hg⟩:=HK.out.gopen;have c14:=HK.out.hgv;rw [hgv] at c14
  have hcell:=hg i hi
  have P:=Hd (HK.out.kvfeed i hi x1 x2);clear hgv hg;dsimp only at c14 hle
  obtain ⟨n,hn⟩:∃ n,n=k.cpus:=⟨_,rfl⟩
  have hi':=hi;rw [← hn] at c14 hle hi' hn64;replace hn:=Hd hn;replace hi:=Hd hi;go_wp2_with fail;refine P.out.mono ?_;rintro e w1 ⟨⟨sp,y,rfl,-,-⟩,S⟩;clear P c14 hcell;obtain ⟨F1,L1,K1⟩:=S.open;clear S
  try dsimp only at K1
  replace HB:=Hd (HB.out.lk L1);replace HL:=Hd (HL.out.trans L1);replace HK:=Hd K1;clear L1 K1;have b1:=HB.out.cell 1;have P:=Hd (HK.out.kmwork i ticks sp);have c13:=HK.out.h13;go_wp2_with fail;refine P.out.mono ?_;rintro e w1 ⟨⟨z,rfl⟩,S⟩;clear P c13;obtain ⟨F1,L1,K1⟩:=S.open;clear S
  try dsimp only at K1
  replace HB:=Hd (HB.out.lk L1);replace HL:=Hd (HL.out.trans L1);replace HK:=Hd K1;clear L1 K1;go_wp2;go_end0
  exact ⟨rfl,HK.out.close HL.out H0.out⟩
 | true =>
  have hw:=hw rfl
  have b1:=HB.out.cell 1
  go_enter func127,ntmps127
  go_wp2_with fail;refine P.out.mono ?_;rintro e w1 ⟨rfl,S⟩;clear P c12 b1;obtain ⟨F1,L1,K1⟩:=S.open;clear S
  try dsimp only at K1
  replace HB:=Hd (HB.out.lk L1);replace HL:=Hd (HL.out.trans L1);replace HK:=Hd K1;clear L1 K1;obtain ⟨g,gc,hgv,hle,hgm,-,hg⟩:=HK.out.gopen;have c14:=HK.out.hgv;rw [hgv] at c14
  have hcell:=hg i hi
  have P:=Hd (HK.out.kvfeed i hi x1 x2);clear hgv hg;dsimp only at c14 hle
  obtain ⟨n,hn⟩:∃ n,n=k.cpus:=⟨_,rfl⟩
  have hi':=hi;rw [← hn] at c14 hle hi' hn64;replace hn:=Hd hn;replace hi:=Hd hi;go_wp2_with fail;refine P.out.mono ?_;rintro e w1 ⟨⟨sp,y,rfl,-,-⟩,S⟩;clear P c14 hcell;obtain ⟨F1,L1,K1⟩:=S.open;clear S
  try dsimp only at K1
  replace HB:=Hd (HB.out.lk L1);replace HL:=Hd (HL.out.trans L1);replace HK:=Hd K1;clear L1 K1;have b1:=HB.out.cell 1;have b2:=HB.out.cell 2;have c13:=HK.out.h13
  have HT:=Hd (HK.out.alloc (.cells tableCells 45))
  have d13:=HT.out.h13
  have HB2:=Hd (HB.out.alloc (.cells tableCells 45))
  have d1:=HB2.out.cell 1;have d2:=HB2.out.cell 2
  have TB:=Blk.new w1 tableCells 45
  have T:Calls prog 10 #[] w1.drew fun e w'=>e=.returned (.slice (some ⟨w1.heap.size,0,none⟩) 4 4)∧w'=(w1.alloc (.cells tableCells 45)).drew:=table_all w1.drew
  replace T:=Hd T
  replace HL:=Hd (HL.out.alloc (.cells tableCells 45))
  clear d1
  obtain ⟨hw0,hw4⟩:0≤way∧way < 4:=by simpa using hw
  have hwn:¬ way < 0:=by omega
  obtain ⟨pw,tc⟩:∃ pw:Int,((w1.alloc (.cells tableCells 45)).drew).cell? ⟨w1.heap.size,way.toNat*3+2,none⟩=some (.int .i64 pw):=by
   have hcase:way=0∨way=1∨way=2∨way=3:=by omega
   rcases hcase with rfl | rfl | rfl | rfl
   ·exact ⟨_,TB.cell 2⟩
   ·exact ⟨_,TB.cell 5⟩
   ·exact ⟨_,TB.cell 8⟩
   ·exact ⟨_,TB.cell 11⟩
  have R:=Hd ((HT.out.drewN 1).kmrest i way ticks pw)
  clear TB;go_wp2_with fail
  refine wp_region_held_drew (S:=fun w'=>w'.cell? ⟨p,13,none⟩=some (.pointer (some ⟨f.pt 13,0,none⟩))∧w'.cell? ⟨w.heap.size,2,none⟩=some (.int .i64 way)) (by kernel_rfl) ⟨c13,b2⟩ (fun hHeld=>?_)
  refine wpAnyH_take (i:=0) (oi:=?_) (v:=?_) ?_ (by kernel_rfl) (by kernel_rfl) (by kernel_rfl) ?_ (Or.inl ⟨?_,?_⟩) hHeld ?_
  rotate_left 2
  ·simp only [sD,sE,sF];rfl
  ·exact fun _ _ _ h=>h
  ·rfl
  ·intro w' hSw;(try dsimp only at hSw);go_simp;(try with_reducible rfl)
  (try simp only [Act.put,sA,sB,sC])
  refine wpAnyH_take (i:=1) (oi:=?_) (v:=?_) ?_ (by kernel_rfl) (by kernel_rfl) (by kernel_rfl) ?_ (Or.inl ⟨?_,?_⟩) hHeld ?_
  rotate_left 2
  ·simp only [sD,sE,sF];rfl
  ·exact fun _ _ _ h=>h
  ·rfl
  ·intro w' hSw;(try dsimp only at hSw);go_simp;(try with_reducible rfl)
  (try simp only [Act.put,sA,sB,sC])
  refine wpAnyH_take (i:=2) (oi:=?_) (v:=?_) ?_ (by kernel_rfl) (by kernel_rfl) (by kernel_rfl) ?_ (Or.inl ⟨?_,?_⟩) hHeld ?_
  rotate_left 2
  ·simp only [sD,sE,sF];rfl
  ·exact fun _ _ _ h=>h
  ·rfl
  ·intro w' hSw;(try dsimp only at hSw);go_simp;(try with_reducible rfl)
  (try simp only [Act.put,sA,sB,sC])
  refine wpAnyH_take (i:=3) (oi:=?_) (v:=?_) ?_ (by kernel_rfl) (by kernel_rfl) (by kernel_rfl) ?_ (Or.inl ⟨?_,?_⟩) hHeld ?_
  rotate_left 2
  ·simp only [sD,sE,sF];rfl
  ·exact fun _ _ _ h=>h
  ·rfl
  ·intro w' hSw;(try dsimp only at hSw);go_simp;(try with_reducible rfl)
  (try simp only [Act.put,sA,sB,sC])
  refine wpAnyH_take (i:=4) (oi:=?_) (v:=?_) ?_ (by kernel_rfl) (by kernel_rfl) (by kernel_rfl) ?_ (Or.inl ⟨?_,?_⟩) hHeld ?_
  rotate_left 2
  ·simp only [sD,sE,sF];rfl
  ·exact fun _ _ _ h=>h
  ·rfl
  ·intro w' hSw;(try dsimp only at hSw);go_simp;(try with_reducible rfl)
  (try simp only [Act.put,sA,sB,sC])
  refine wpAnyH_take (i:=5) (oi:=?_) (v:=?_) ?_ (by kernel_rfl) (by kernel_rfl) (by kernel_rfl) ?_ (Or.inl ⟨?_,?_⟩) hHeld ?_
  rotate_left 2
  ·simp only [sD,sE,sF];rfl
  ·exact fun _ _ _ h=>h
  ·rfl
  ·intro w' hSw;(try dsimp only at hSw);go_simp;(try with_reducible rfl)
  (try simp only [Act.put,sA,sB,sC])
  refine wpAnyH_take (i:=6) (oi:=?_) (v:=?_) ?_ (by kernel_rfl) (by kernel_rfl) (by kernel_rfl) ?_ (Or.inl ⟨?_,?_⟩) hHeld ?_
  rotate_left 2
  ·simp only [sD,sE,sF];rfl
  ·exact fun _ _ _ h=>h
  ·rfl
  ·intro w' hSw;(try dsimp only at hSw);go_simp;(try with_reducible rfl)
  (try simp only [Act.put,sA,sB,sC])
  refine wpAnyH_take (i:=7) (oi:=?_) (v:=?_) ?_ (by kernel_rfl) (by kernel_rfl) (by kernel_rfl) ?_ (Or.inl ⟨?_,?_⟩) hHeld ?_
  rotate_left 2
  ·simp only [sD,sE,sF];rfl
  ·exact fun _ _ _ h=>h
  ·rfl
  ·intro w' hSw;(try dsimp only at hSw);go_simp;(try with_reducible rfl)
  (try simp only [Act.put,sA,sB,sC])
  refine wpAnyH_take (i:=8) (oi:=?_) (v:=?_) ?_ (by kernel_rfl) (by kernel_rfl) (by kernel_rfl) ?_ (Or.inl ⟨?_,?_⟩) hHeld ?_
  rotate_left 2
  ·simp only [sD,sE,sF];rfl
  ·exact fun _ _ _ h=>h
  ·rfl
  ·intro w' hSw;(try dsimp only at hSw);go_simp;(try with_reducible rfl)
  (try simp only [Act.put,sA,sB,sC])
  refine wpAnyH_take (i:=10) (oi:=?_) (v:=?_) ?_ (by kernel_rfl) (by kernel_rfl) (by kernel_rfl) ?_ (Or.inl ⟨?_,?_⟩) hHeld ?_
  rotate_left 2
  ·simp only [sD,sE,sF];rfl
  ·exact fun _ _ _ h=>h
  ·rfl
  ·intro w' hSw;(try dsimp only at hSw);go_simp;(try with_reducible rfl)
  (try simp only [Act.put,sA,sB,sC])
  refine wpAnyH_take (i:=11) (oi:=?_) (v:=?_) ?_ (by kernel_rfl) (by kernel_rfl) (by kernel_rfl) ?_ (Or.inl ⟨?_,?_⟩) hHeld ?_
  rotate_left 2
  ·simp only [sD,sE,sF];rfl
  ·exact fun _ _ _ h=>h
  ·rfl
  ·intro w' hSw;(try dsimp only at hSw);go_simp;(try with_reducible rfl)
  (try simp only [Act.put,sA,sB,sC])
  refine wpAnyH_ready (rs:=[9]) (by kernel_rfl) (by simp) ?_
  refine AllReadyH.cons (o:=?_) ?_ (fun K hK=>?_) AllReadyH.nil
  rotate_left 1
  ·simp only [sD,sE,sF];rfl
  go_simp
  (refine T.out.mono ?_;rintro e w3 ⟨rfl,rfl⟩)
  refine hK.out _ _ ⟨d13,d2⟩ (fun hHeld=>?_)
  clear hK K
  (try simp only [Act.put,sA,sB,sC])
  refine wpAnyH_take (i:=12) (oi:=?_) (v:=?_) ?_ (by kernel_rfl) (by kernel_rfl) (by kernel_rfl) ?_ (Or.inl ⟨?_,?_⟩) hHeld ?_
  rotate_left 2
  ·simp only [sD,sE,sF];rfl
  ·exact fun _ _ _ h=>h
  ·rfl
  ·intro w' hSw;(try dsimp only at hSw);go_simp;(try with_reducible rfl)
  (try simp only [Act.put,sA,sB,sC])
  refine wpAnyH_take (i:=13) (oi:=?_) (v:=?_) ?_ (by kernel_rfl) (by kernel_rfl) (by kernel_rfl) ?_ (Or.inl ⟨?_,?_⟩) hHeld ?_
  rotate_left 2
  ·simp only [sD,sE,sF];rfl
  ·exact fun _ _ _ h=>h
  ·rfl
  ·intro w' hSw;(try dsimp only at hSw);go_simp;(try with_reducible rfl)
  (try simp only [Act.put,sA,sB,sC])
  refine wpAnyH_ready (rs:=[14]) (by kernel_rfl) (by simp) ?_
  refine AllReadyH.cons (o:=?_) ?_ (fun K hK=>?_) AllReadyH.nil
  rotate_left 1
  ·simp only [sD,sE,sF];rfl
  go_simp
  refine hK.out _ _ ⟨d13,d2⟩ (fun hHeld=>?_)
  clear hK K
  (try simp only [Act.put,sA,sB,sC])
  refine wpAnyH_ready (rs:=[15]) (by kernel_rfl) (by simp) ?_
  refine AllReadyH.cons (o:=?_) ?_ (fun K hK=>?_) AllReadyH.nil
  rotate_left 1
  ·simp only [sD,sE,sF];rfl
  go_simp
  (refine R.out.mono ?_;rintro e w3 ⟨⟨z,rfl⟩,S⟩)
  refine hK.out _ _ ⟨S.1.h13,(S.keep HB2.out.blk HB2.out.off).cell 2⟩ (fun hHeld=>?_)
  clear hK K
  (try simp only [Act.put,sA,sB,sC])
  refine wpAnyH_done (by kernel_rfl) ?_ _
  go_wp2_with fail;replace HL:=Hd (HL.out.drewN 1);replace S:=S.nx HL.out;clear HL HK;obtain ⟨F1,HK,HL⟩:=S
  try dsimp only at HK
  go_end0
  exact ⟨rfl,HK.out.close HL.out H0.out⟩
section
open Go.Proofs.YtiocbpabbjgkhaaGreatDoor.NumD
def tickC (c:Core):Core:=if c.power then (takeF c).1 else c
def tickTo (k:K) (j:Nat):K:={ k with co:=mapTo tickC k.co j }
def kTick (k:K) (n:Int):K:=if (laterF k.now n).2≠0 then k else { k with co:=mapTo tickC k.co k.cpus,now:=(laterF k.now n).1,tm:=(timersGo k.tm (laterF k.now n).1).1 }
def kTickR (k:K) (n:Int):Int:=if (laterF k.now n).2≠0 then (laterF k.now n).2 else (timersGo k.tm (laterF k.now n).1).2
theorem laterF_in {now n:Int} (h:(laterF now n).2=0) (h0:0≤now):0≤(laterF now n).1∧(laterF now n).1≤1152921504606846976:=by
 unfold laterF at h ⊢
 split at h
 ·exact absurd h (by decide)
 ·rename_i hb
  rw [if_neg hb]
  split at h
  ·exact absurd h (by decide)
  ·rename_i h2
   rw [if_neg h2];unfold badLater at hb;dsimp only
   omega
theorem coreGet_in {l:List Core} {i:Nat} (h:i < l.length):coreGet l i=(l.getD i noCore,0):=by
 unfold coreGet
 have e:mayF l.length (i:Int)=0:=by unfold mayF;rw [if_neg (by omega)]
 rw [if_neg (by simp [e]),Int.toNat_natCast]
theorem coreSet_in {l:List Core} {i:Nat} (h:i < l.length) (g:Core→Core × Int):coreSet l i g=(l.set i (g (l.getD i noCore)).1,(g (l.getD i noCore)).2):=by
 unfold coreSet
 have e:mayF l.length (i:Int)=0:=by unfold mayF;rw [if_neg (by omega)]
 rw [if_neg (by simp [e]),Int.toNat_natCast]
theorem KAt.ktick (h:KAt w F p f k) (hf:fewT k.tm) (hlc:k.co.length=k.cpus) (hway:∀ c∈k.co,c.idle=true→0≤c.way∧c.way < 4) (n:Int) (hn:In64 n):Calls prog 81 #[.pointer (some ⟨p,0,none⟩),.int .i64 n] w fun e w'=>e=.returned (.int .i64 (kTickR k n))∧KS w w' F p f (kTick k n):=by
 have A:=later_any k.now n w h.in_now hn
 have hin:=laterF_in (now:=k.now) (n:=n)
 have hnw:=h.nw;have c18:=h.hnw;have hn64:=h.n64;replace hf:=Hd hf;have H0:=Hd h;have HK:=Hd h;have HL:=Hd (Lk.refl w F);clear h;unfold kTick kTickR
 obtain ⟨l,hl⟩:∃ l,l=laterF k.now n:=⟨_,rfl⟩
 rw [← hl] at A hin ⊢;replace A:=Hd A;obtain ⟨l1,l2⟩:=l;dsimp only at A hin ⊢;replace hl:=Hd hl
 by_cases e2:l2=0
 ·subst e2
  rw [if_neg (show ¬ ((0:Int)≠0) by decide),if_neg (show ¬ ((0:Int)≠0) by decide)];have hin2:=Hd (hin rfl hnw.1);clear hin hnw;have c15:=HK.out.hcp
  obtain ⟨m,hm⟩:∃ m,m=k.cpus:=⟨_,rfl⟩
  rw [← hm] at c15 hn64 hlc;replace hm:=Hd hm;replace hway:=Hd hway
  go_enter func81,ntmps81
  go_wp2_with fail;refine A.out.mono ?_;rintro e w1 ⟨rfl,rfl⟩;clear A c18;go_wp2
  go_loopw [26,7,8,9] (fun iv _ _ _ wr=>∃ (j:Nat) (F':Nat→Prop),iv=.int .i64 j∧j≤m∧Hid (KAt wr F' p f (tickTo k j))∧Hid (Lk w F wr F')) (fun iv _ _ _ _=>m - (intOf iv).toNat)
  case atStart=>exact ⟨0,F,rfl,by omega,Hd (by unfold tickTo;rw [mapTo_zero];exact HK.out),Hd (Lk.refl _ _)⟩
  case round =>
   clear HK HL;obtain ⟨j,F',rfl,hj,HK,HL⟩:=hrel
   by_cases hlt:j < m
   ·have hjl:j < k.co.length:=by omega
    have hjl2:j < (tickTo k j).co.length:=by unfold tickTo;dsimp only;rw [mapTo_len];exact hjl
    have P:=HK.out.kcget j
    rw [coreGet_in hjl2] at P
    have hg:(tickTo k j).co.getD j noCore=k.co.getD j noCore:=by unfold tickTo;dsimp only;rw [mapTo_get _ _ _ _ hjl]
    rw [hg] at P
    have hw2:=hway.out (k.co.getD j noCore) (by rw [List.getD_eq_getElem?_getD,List.getElem?_eq_getElem hjl];exact List.getElem_mem hjl)
    have hcp:j < (tickTo k j).cpus:=by show j < k.cpus;rw [← hm.out];exact hlt
    have hst:tickTo k (j+1)=if (k.co.getD j noCore).power then kTake (tickTo k j) j else tickTo k j:=by
     unfold kTake;rw [coreSet_in hjl2,hg];unfold tickTo;dsimp only;rw [← mapTo_step tickC k.co j noCore hjl];rw [show tickC (k.co.getD j noCore)=if (k.co.getD j noCore).power then (takeF (k.co.getD j noCore)).1 else k.co.getD j noCore from rfl]
     split
     ·rfl
     ·congr 1
      conv=>rhs;rw [← set_same (l:=mapTo tickC k.co j) (d:=noCore) (show j < _ by rw [mapTo_len];exact hjl)]
      rw [mapTo_get _ _ _ _ hjl]
    clear hg
    obtain ⟨c,hc⟩:∃ c,c=k.co.getD j noCore:=⟨_,rfl⟩
    rw [← hc] at P hst hw2;replace hc:=Hd hc;obtain ⟨power,idle,way,since,steps,busy⟩:=c
    dsimp only [coreL] at P hst hw2
    replace P:=Hd P;have c12:=HK.out.h12
    cases power with
    | false =>
     rw [if_neg (by decide)] at hst;replace hst:=Hd hst;go_wp2_with fail;refine P.out.mono ?_;rintro e w1 ⟨rfl,S⟩;replace HL:=Hd (HL.out.below S);replace HK:=Hd (HK.out.below S);clear S
     have HX:=HK.out.bx HL.out #[.bool false,.bool idle,.int .i64 way,.int .i64 since,.int .i64 steps,.int .i64 busy] 32
     clear HL HK;obtain ⟨HB,HK,HL⟩:=HX;have b0:=HB.out.cell 0;go_wp2;go_roundw
     case rel=>exact ⟨j+1,_,by go_num,hlt,by rw [hst.out];exact HK,HL⟩
     case measure=>simp [intOf];omega
    | true =>
     rw [if_pos rfl] at hst;replace hst:=Hd hst;go_wp2_with fail;refine P.out.mono ?_;rintro e w1 ⟨rfl,S⟩;replace HL:=Hd (HL.out.below S);replace HK:=Hd (HK.out.below S);clear S
     have HX:=HK.out.bx HL.out #[.bool true,.bool idle,.int .i64 way,.int .i64 since,.int .i64 steps,.int .i64 busy] 32
     clear HL HK;obtain ⟨HB,HK,HL⟩:=HX;have b0:=HB.out.cell 0;have b1:=HB.out.cell 1;have b2:=HB.out.cell 2;have b3:=HB.out.cell 3;have b4:=HB.out.cell 4;have b5:=HB.out.cell 5;have Q:=Hd (HK.out.kmeet j hcp ⟨true,idle,way,since,steps,busy⟩ hw2 n);clear hw2;go_wp2_with fail;refine Q.out.mono ?_;rintro e w1 ⟨rfl,S⟩;replace S:=S.nx HL.out;clear HL HK;obtain ⟨F1,HK,HL⟩:=S
     try dsimp only at HK
     go_wp2;go_roundw
     case rel=>exact ⟨j+1,_,by go_num,hlt,by rw [hst.out];exact HK,HL⟩
     case measure=>simp [intOf];omega
   ·have hjm:Hid (j=m):=Hd (by omega)
    have fr:=HK.out.frozen 18;have c18:=HK.out.hnw
    have S:=HK.out.set_now l1 hin2.out
    replace S:=S.nx HL.out;clear HL HK;obtain ⟨F1,HK,HL⟩:=S
    try dsimp only at HK
    have c2:=HK.out.h2
    have P:=HK.out.ktgo hf.out l1
    replace P:=Hd P;go_wp2_with fail;refine P.out.mono ?_;rintro e w1 ⟨rfl,S⟩;replace S:=S.nx HL.out;clear HL HK;obtain ⟨F1,HK,HL⟩:=S
    try dsimp only at HK
    go_wp2;go_returns
    have K2:=HK.out.close HL.out H0.out
    unfold tickTo at K2;rw [hjm.out,hm.out] at K2
    exact ⟨rfl,K2⟩
 ·rw [if_pos e2,if_pos e2]
  have e3:(l2 == 0)=false:=by simpa using e2
  go_enter func81,ntmps81
  go_wp2_with fail;refine A.out.mono ?_;rintro e w1 ⟨rfl,rfl⟩;go_wp2;go_returns
  exact ⟨rfl,HK.out.close HL.out H0.out⟩
end
end Go.Proofs.YtiocbpabbjgkhaaGreatDoor
