/- Part 8 of the proof: contracts and plain laws, each under the conditions that it names. -/
import Derived.Test.YtiocbpabbjgkhaaGreatDoorPow07
set_option maxRecDepth 100000
set_option maxHeartbeats 20000000
set_option linter.unusedVariables false
set_option linter.unusedSimpArgs false
namespace Go.Proofs.YtiocbpabbjgkhaaGreatDoor
open Go.RowKit Go.Proofs.Tryz
variable {w w' : World} {F : Nat → Prop} {p : Nat}
structure Runq where
 qs:List Prio
 wh:List (Int × Int)
def noPrio:Prio:=⟨[],[]⟩
structure RunqAtQ (w:World) (F:Nat→Prop) (p wb:Nat) (rv:Value) (ptrs c:Nat→Nat) (r:Runq):Prop where
 head:Blk w p #[rv,.map (some wb)] 181
 row:RowAt w (Col F c 1) 178 1 rv r.qs.length (ptrL ptrs r.qs.length)
 map:IMapAt w wb r.wh
 fp:Col F c 0 p
 fm:Col F c 2 wb
 lt:∀ b,F b→b < w.heap.size
 qs:∀ i,i < r.qs.length→PrioAt w (Col F c (3+i)) (ptrs i) (r.qs.getD i noPrio)
 n1:1≤r.qs.length
 n64:r.qs.length≤64
 ok:∀ x∈r.wh,0≤x.2∧x.2 < r.qs.length
def RunqAt (w:World) (F:Nat→Prop) (p:Nat) (r:Runq):Prop:=∃ wb rv ptrs c,RunqAtQ w F p wb rv ptrs c r
theorem RunqAtQ.ch {F G:Nat→Prop} {p wb:Nat} {rv:Value} {ptrs c:Nat→Nat} {r:Runq} (h:RunqAtQ w F p wb rv ptrs c r) (hc:Ch G w w') (hd:∀ b,F b→¬ G b):RunqAtQ w' F p wb rv ptrs c r :=
 ⟨h.head.ch hc (hd _ h.fp.1),h.row.ch hc (fun b hb=>hd b hb.1),h.map.ch hc (hd _ h.fm.1),h.fp,h.fm,fun b hb=>Nat.lt_of_lt_of_le (h.lt b hb) hc.size,fun i hi=>(h.qs i hi).ch hc (fun b hb=>hd b hb.1),h.n1,h.n64,h.ok⟩
theorem RunqAt.ch {F G:Nat→Prop} {r:Runq} (h:RunqAt w F p r) (hc:Ch G w w') (hd:∀ b,F b→¬ G b):RunqAt w' F p r:=by
 obtain ⟨wb,rv,ptrs,c,h⟩:=h
 exact ⟨wb,rv,ptrs,c,h.ch hc hd⟩
theorem RunqAt.below {r:Runq} (h:RunqAt w F p r) (hb:Below w.heap.size w w'):RunqAt w' F p r:=h.ch (Ch.off hb) (fun _ _ h=>h)
theorem RunqAt.ltF {r:Runq} (h:RunqAt w F p r):∀ b,F b→b < w.heap.size:=by
 obtain ⟨wb,rv,ptrs,c,h⟩:=h
 exact h.lt
theorem RunqAt.mono {F G:Nat→Prop} {r:Runq} (h:RunqAt w F p r) (hd:∀ b,F b→G b) (hG:∀ b,G b→b < w.heap.size):RunqAt w G p r:=by
 obtain ⟨wb,rv,ptrs,c,h⟩:=h
 exact ⟨wb,rv,ptrs,c,h.head,h.row.mono (fun b hb=>⟨hd b hb.1,hb.2⟩),h.map,⟨hd _ h.fp.1,h.fp.2⟩,⟨hd _ h.fm.1,h.fm.2⟩,hG,fun i hi=>(h.qs i hi).mono (fun b hb=>⟨hd b hb.1,hb.2⟩) (fun b hb=>hG b hb.1),h.n1,h.n64,h.ok⟩
theorem RunqAtQ.open {p wb:Nat} {rv:Value} {ptrs c:Nat→Nat} {r:Runq} (h:RunqAtQ w F p wb rv ptrs c r):∃ g cap,rv=.slice (some ⟨g,0,none⟩) r.qs.length cap∧r.qs.length≤cap∧∀ j,j < r.qs.length→w.cell? ⟨g,j,none⟩=some (.pointer (some ⟨ptrs j,0,none⟩)):=by
 obtain ⟨g,cap,h1,h2,_,_,_,h3,_⟩:=h.row.open h.n1
 exact ⟨g,cap,h1,h2,fun j hj=>h3 j _ (ptrL_get hj)⟩
theorem RunqAtQ.turn {p wb:Nat} {rv:Value} {ptrs c:Nat→Nat} {r:Runq} (h:RunqAtQ w F p wb rv ptrs c r) {i:Nat} (hi:i < r.qs.length) {q:Prio} (hq:PrioAt w' (Plus w w' (Col F c (3+i))) (ptrs i) q) (hc:Ch (Col F c (3+i)) w w'):RunqAtQ w' (Plus w w' F) p wb rv ptrs (recol w c (3+i)) ⟨r.qs.set i q,r.wh⟩:=by
 have hG:∀ b,Plus w w' F b→b < w'.heap.size:=Plus.lt h.lt hc.size
 refine ⟨h.head.ch hc (Col.apart (by omega) _ h.fp),?_,h.map.ch hc (Col.apart (by omega) _ h.fm),Col.old h.lt _ h.fp,Col.old h.lt _ h.fm,hG,fun j hj=>?_,by simpa using h.n1,by simpa using h.n64,by simpa using h.ok⟩
 ·simp only [List.length_set]
  exact (h.row.ch hc (Col.apart (by omega))).mono (Col.old h.lt)
 ·have hj':j < r.qs.length:=by simpa using hj
  by_cases e:j=i
  ·subst e
   have:(r.qs.set j q).getD j noPrio=q:=by rw [List.getD_eq_getElem?_getD,List.getElem?_set_self hi];rfl
   show PrioAt w' _ _ ((r.qs.set j q).getD j noPrio)
   rw [this]
   exact hq.mono (Col.new h.lt) (fun b hb=>hG b hb.1)
  ·have:(r.qs.set i q).getD j noPrio=r.qs.getD j noPrio:=by rw [List.getD_eq_getElem?_getD,List.getElem?_set_ne (Ne.symm e),List.getD_eq_getElem?_getD]
   show PrioAt w' _ _ ((r.qs.set i q).getD j noPrio)
   rw [this]
   exact ((h.qs j hj').ch hc (Col.apart (by omega))).mono (Col.old h.lt) (fun b hb=>hG b hb.1)
theorem RunqAtQ.put {p wb:Nat} {rv:Value} {ptrs c:Nat→Nat} {r:Runq} (h:RunqAtQ w F p wb rv ptrs c r) (d v:Int) (hv:0≤v∧v < r.qs.length):RunqAtQ (mapPut w wb d (.int .i64 v)) F p wb rv ptrs c ⟨r.qs,mput r.wh d v⟩:=by
 have hc:Ch (Col F c 2) w (mapPut w wb d (.int .i64 v)):=(Ch.refl _ w).mapPut (fun _=>h.fm) d _
 exact ⟨h.head.ch hc (Col.apart (by omega) _ h.fp),h.row.ch hc (Col.apart (by omega)),h.map.put d v,h.fp,h.fm,fun b hb=>by simpa using h.lt b hb,fun i hi=>(h.qs i hi).ch hc (Col.apart (by omega)),h.n1,h.n64,fun x hx=>(mem_mput hx).elim (fun e=>by subst e;exact hv) (h.ok x)⟩
theorem RunqAtQ.del {p wb:Nat} {rv:Value} {ptrs c:Nat→Nat} {r:Runq} (h:RunqAtQ w F p wb rv ptrs c r) (d:Int):RunqAtQ (mapDel w wb d) F p wb rv ptrs c ⟨r.qs,mdel r.wh d⟩:=by
 have hc:Ch (Col F c 2) w (mapDel w wb d):=(Ch.refl _ w).mapDel (fun _=>h.fm) d
 exact ⟨h.head.ch hc (Col.apart (by omega) _ h.fp),h.row.ch hc (Col.apart (by omega)),h.map.del d,h.fp,h.fm,fun b hb=>by simpa using h.lt b hb,fun i hi=>(h.qs i hi).ch hc (Col.apart (by omega)),h.n1,h.n64,fun x hx=>h.ok x (mem_mdel hx)⟩
theorem rmay_any (w:World) {r:Runq} (h:RunqAt w F p r) (cpu:Int):Calls prog 97 #[.pointer (some ⟨p,0,none⟩),.int .i64 cpu] w fun e w'=>e=.returned (.int .i64 (mayF r.qs.length cpu))∧w=w':=by
 obtain ⟨wb,rv,ptrs,c,h⟩:=h;obtain ⟨g,cap,rfl,-,-⟩:=h.open
 have c0:w.cell? ⟨p,0,none⟩=some (.slice (some ⟨g,0,none⟩) r.qs.length cap):=h.head.cell 0
 clear h;generalize r.qs.length=n at *
 rcases may_cases n cpu with ⟨h1,e⟩ | ⟨h1,h2,e⟩ | ⟨i,rfl,h2,e⟩
 all_goals
  rw [e];clear e
  go_enter func97,ntmps97
  go_wp2;go_returns
  exact ⟨rfl,rfl⟩
def runqLoad (r:Runq) (cpu:Int):Int:=if mayF r.qs.length cpu≠0 then 0 else ((r.qs.getD cpu.toNat noPrio).pr.length:Nat)
theorem rload_any (w:World) {r:Runq} (h:RunqAt w F p r) (cpu:Int):Calls prog 28 #[.pointer (some ⟨p,0,none⟩),.int .i64 cpu] w fun e w'=>e=.returned (.int .i64 (runqLoad r cpu))∧w=w':=by
 have A:=Hd (rmay_any w h cpu);obtain ⟨wb,rv,ptrs,c,h⟩:=h;obtain ⟨g,cap,rfl,hle,hg⟩:=h.open
 have c0:w.cell? ⟨p,0,none⟩=some (.slice (some ⟨g,0,none⟩) r.qs.length cap):=h.head.cell 0
 unfold runqLoad
 by_cases hm:mayF r.qs.length cpu=0
 ·obtain ⟨i,rfl,hi⟩:=may_yes hm
  have B:=Hd (plen_any w (h.qs i hi))
  have ci:=hg i hi
  rw [hm] at A ⊢;clear h hg hm
  simp only [Int.toNat_natCast,ne_eq,not_true,if_false] at B ⊢
  generalize (r.qs.getD i noPrio).pr.length=L at *;generalize r.qs.length=n at *
  go_enter func28,ntmps28
  go_wp2_with fail;refine A.out.mono ?_;rintro e w1 ⟨rfl,rfl⟩;go_wp2_with fail;refine B.out.mono ?_;rintro e w1 ⟨rfl,rfl⟩;go_wp2;go_returns
  exact ⟨rfl,rfl⟩
 ·have e:=may_no hm
  rw [e] at A ⊢;clear h hg hm e
  go_enter func28,ntmps28
  go_wp2_with fail;refine A.out.mono ?_;rintro e w1 ⟨rfl,rfl⟩;go_wp2;go_returns
  exact ⟨rfl,rfl⟩
theorem rof_yes (w:World) {p wb:Nat} {rv:Value} {ptrs c:Nat→Nat} {r:Runq} (h:RunqAtQ w F p wb rv ptrs c r) {d v:Int} (hg:mget r.wh d=some v):Calls prog 223 #[.pointer (some ⟨p,0,none⟩),.int .i64 d] w fun e w'=>e=.returned (.tuple #[.pointer (some ⟨ptrs v.toNat,0,none⟩),.int .i64 0])∧w=w':=by
 obtain ⟨g,cap,rfl,hle,hgc⟩:=h.open
 have c0:w.cell? ⟨p,0,none⟩=some (.slice (some ⟨g,0,none⟩) r.qs.length cap):=h.head.cell 0
 have c1:w.cell? ⟨p,1,none⟩=some (.map (some wb)):=h.head.cell 1
 have hl:=h.map.look underlying95 underlying3 (zero3 w) d
 rw [hg] at hl
 have hok:=h.ok _ (mget_mem hg)
 dsimp only at hok
 obtain ⟨i,rfl⟩:∃ i:Nat,v=i:=⟨v.toNat,by omega⟩
 have ci:=hgc i (by omega)
 have hi:i < r.qs.length:=by omega
 clear h hgc hok hg;generalize r.qs.length=n at *
 go_enter func223,ntmps223
 go_wp2;go_returns
 exact ⟨rfl,rfl⟩
theorem rof_no (w:World) {p wb:Nat} {rv:Value} {ptrs c:Nat→Nat} {r:Runq} (h:RunqAtQ w F p wb rv ptrs c r) {d:Int} (hg:mget r.wh d=none):Calls prog 223 #[.pointer (some ⟨p,0,none⟩),.int .i64 d] w fun e w'=>e=.returned (.tuple #[.pointer none,.int .i64 4])∧w=w':=by
 have c1:w.cell? ⟨p,1,none⟩=some (.map (some wb)):=h.head.cell 1
 have hl:=h.map.look underlying95 underlying3 (zero3 w) d
 rw [hg] at hl;clear h hg
 go_enter func223,ntmps223
 go_wp2;go_returns
 exact ⟨rfl,rfl⟩
def runqPick (r:Runq) (cpu:Int):Runq × Int × Int :=
 if mayF r.qs.length cpu≠0 then (r,0,3) else
 if (prioTop (r.qs.getD cpu.toNat noPrio)).2≠0 then (r,0,(prioTop (r.qs.getD cpu.toNat noPrio)).2) else
 (⟨r.qs.set cpu.toNat (prioTurn (r.qs.getD cpu.toNat noPrio)).1,r.wh⟩,(prioTop (r.qs.getD cpu.toNat noPrio)).1,(prioTurn (r.qs.getD cpu.toNat noPrio)).2)
theorem rpick_any (w:World) {r:Runq} (h:RunqAt w F p r) (cpu:Int):Calls prog 206 #[.pointer (some ⟨p,0,none⟩),.int .i64 cpu] w fun e w'=>e=.returned (.tuple #[.int .i64 (runqPick r cpu).2.1,.int .i64 (runqPick r cpu).2.2])∧RunqAt w' (Plus w w' F) p (runqPick r cpu).1∧Ch F w w':=by
 have HT:=Hd h;have A:=Hd (rmay_any w h cpu);obtain ⟨wb,rv,ptrs,c,h⟩:=h;obtain ⟨g,cap,rfl,hle,hg⟩:=h.open
 have c0:w.cell? ⟨p,0,none⟩=some (.slice (some ⟨g,0,none⟩) r.qs.length cap):=h.head.cell 0
 unfold runqPick
 by_cases hm:mayF r.qs.length cpu=0
 ·obtain ⟨i,rfl,hi⟩:=may_yes hm
  have B:=Hd (pTop_any w (h.qs i hi))
  have D:=fun w1 (hb:Below w.heap.size w w1)=>Hd (pturn_any w1 ((h.qs i hi).below hb))
  have ci:=hg i hi
  rw [hm] at A ⊢;have H:=Hd h;have hi':=Hd hi;clear h hg hm
  simp only [Int.toNat_natCast,ne_eq,not_true,if_false] at B D ⊢
  generalize prioTop (r.qs.getD i noPrio)=t at *;generalize prioTurn (r.qs.getD i noPrio)=u at *
  obtain ⟨n,hn⟩:∃ n,n=r.qs.length:=⟨_,rfl⟩
  rw [← hn] at c0 hi hle;clear hn;obtain ⟨t1,t2⟩:=t;dsimp only at *
  by_cases ht:t2=0
  ·subst ht
   rw [if_neg (by simp)]
   go_enter func206,ntmps206
   go_wp2_with fail;refine A.out.mono ?_;rintro e w1 ⟨rfl,rfl⟩;go_wp2_with fail;refine B.out.mono ?_;rintro e w1 ⟨rfl,hb⟩
   replace D:=D w1 hb
   have c0':=keepcell hb c0
   have ci':=keepcell hb ci
   replace hb:=Hd hb;go_wp2_with fail;refine D.out.mono ?_;rintro e w2 ⟨rfl,h1,h2⟩;replace h1:=Hd h1;replace h2:=Hd h2;go_wp2;go_returns
   have hc:Ch (Col F c (3+i)) w w2:=(Ch.of_below hb.out).then h2.out (fun _ _ h=>h)
   exact ⟨rfl,⟨_,_,_,_,H.out.turn hi'.out (h1.out.mono (fun b hb'=>hb'.elim .inl (fun e=>.inr ⟨Nat.le_trans hb.out.size e.1,e.2⟩)) (Plus.lt (Col.lt H.out.lt) hc.size)) hc⟩,Col.ch hc⟩
  ·have ht':(t2 != 0)=true:=by simpa using ht
   rw [if_pos ht];clear ht
   go_enter func206,ntmps206
   go_wp2_with fail;refine A.out.mono ?_;rintro e w1 ⟨rfl,rfl⟩;go_wp2_with fail;refine B.out.mono ?_;rintro e w1 ⟨rfl,hb⟩;replace hb:=Hd hb;go_wp2;go_returns
   exact ⟨rfl,(HT.out.below hb.out).mono Plus.sub (Plus.lt HT.out.ltF hb.out.size),Ch.of_below hb.out⟩
 ·have e:=may_no hm
  rw [e] at A ⊢;clear h hg hm e
  go_enter func206,ntmps206
  go_wp2_with fail;refine A.out.mono ?_;rintro e w1 ⟨rfl,rfl⟩;go_wp2;go_returns
  exact ⟨rfl,by rw [Plus.self];exact HT.out,Ch.refl _ _⟩
def runqBack (r:Runq) (d:Int):Runq × Int :=
 match mget r.wh d with
 | none=>(r,4)
 | some v=>(⟨r.qs.set v.toNat (prioBack (r.qs.getD v.toNat noPrio) d).1,r.wh⟩,(prioBack (r.qs.getD v.toNat noPrio) d).2)
theorem rback_any (w:World) {r:Runq} (h:RunqAt w F p r) (d:Int):Calls prog 135 #[.pointer (some ⟨p,0,none⟩),.int .i64 d] w fun e w'=>e=.returned (.int .i64 (runqBack r d).2)∧RunqAt w' (Plus w w' F) p (runqBack r d).1∧Ch F w w':=by
 have HT:=Hd h;obtain ⟨wb,rv,ptrs,c,h⟩:=h;unfold runqBack
 cases hg:mget r.wh d with
 | none =>
  have A:=Hd (rof_no w h hg);clear h hg
  go_enter func135,ntmps135
  go_wp2_with fail;refine A.out.mono ?_;rintro e w1 ⟨rfl,rfl⟩;go_wp2;go_returns
  exact ⟨rfl,by rw [Plus.self];exact HT.out,Ch.refl _ _⟩
 | some v =>
  have A:=Hd (rof_yes w h hg)
  have hok:=h.ok _ (mget_mem hg)
  have hi:v.toNat < r.qs.length:=by dsimp only at hok;omega
  have B:=Hd (pback_any w (h.qs v.toNat hi) d)
  have H:=Hd h;clear h hg hok;dsimp only;replace hi:=Hd hi;generalize prioBack (r.qs.getD v.toNat noPrio) d=u at *
  go_enter func135,ntmps135
  go_wp2_with fail;refine A.out.mono ?_;rintro e w1 ⟨rfl,rfl⟩;go_wp2_with fail;refine B.out.mono ?_;rintro e w2 ⟨rfl,h1,h2⟩;replace h1:=Hd h1;replace h2:=Hd h2;go_wp2;go_returns
  exact ⟨rfl,⟨_,_,_,_,H.out.turn hi.out h1.out h2.out⟩,Col.ch h2.out⟩
def runqTake (r:Runq) (d:Int):Runq × Int :=
 match mget r.wh d with
 | none=>(r,4)
 | some v=>(⟨r.qs.set v.toNat (prioDrop (r.qs.getD v.toNat noPrio) d).1,mdel r.wh d⟩,(prioDrop (r.qs.getD v.toNat noPrio) d).2)
theorem rtake_any (w:World) {r:Runq} (h:RunqAt w F p r) (d:Int):Calls prog 218 #[.pointer (some ⟨p,0,none⟩),.int .i64 d] w fun e w'=>e=.returned (.int .i64 (runqTake r d).2)∧RunqAt w' (Plus w w' F) p (runqTake r d).1∧Ch F w w':=by
 have HT:=Hd h;obtain ⟨wb,rv,ptrs,c,h⟩:=h;unfold runqTake
 cases hg:mget r.wh d with
 | none =>
  have A:=Hd (rof_no w h hg);clear h hg
  go_enter func218,ntmps218
  go_wp2_with fail;refine A.out.mono ?_;rintro e w1 ⟨rfl,rfl⟩;go_wp2;go_returns
  exact ⟨rfl,by rw [Plus.self];exact HT.out,Ch.refl _ _⟩
 | some v =>
  have A:=Hd (rof_yes w h hg)
  have hok:=h.ok _ (mget_mem hg)
  have hi:v.toNat < r.qs.length:=by dsimp only at hok;omega
  have c1:w.cell? ⟨p,1,none⟩=some (.map (some wb)):=h.head.cell 1
  have hdel:=fun ty=>run_del (P:=prog) h.map underlying95 underlying3 d ty 3
  have hX:=h.del d
  have B:=Hd (pdrop_any (mapDel w wb d) (hX.qs v.toNat hi) d)
  replace hX:=Hd hX;have H:=Hd h;clear h hg hok;dsimp only at B ⊢;replace hi:=Hd hi;generalize prioDrop (r.qs.getD v.toNat noPrio) d=u at *
  go_enter func218,ntmps218
  go_wp2_with fail;refine A.out.mono ?_;rintro e w1 ⟨rfl,rfl⟩;go_wp2_with fail;refine B.out.mono ?_;rintro e w2 ⟨rfl,h1,h2⟩;replace h1:=Hd h1;replace h2:=Hd h2;go_wp2;go_returns
  have hr:=hX.out.turn hi.out h1.out h2.out
  rw [Plus.of_size (show (mapDel w wb d).heap.size=w.heap.size by simp)] at hr
  exact ⟨rfl,⟨_,_,_,_,hr⟩,((Ch.refl F w).mapDel (fun _=>H.out.fm.1) d).trans (Col.ch h2.out)⟩
def runqList (r:Runq) (cpu:Int):List Int:=if mayF r.qs.length cpu≠0 then [] else prioList (r.qs.getD cpu.toNat noPrio)
theorem rlist_any (w:World) {r:Runq} (h:RunqAt w F p r) (cpu:Int):Calls prog 250 #[.pointer (some ⟨p,0,none⟩),.int .i64 cpu] w fun e w'=>(∃ v,e=.returned v∧IntsAt w' (New w) v (runqList r cpu))∧Below w.heap.size w w':=by
 have A:=Hd (rmay_any w h cpu);obtain ⟨wb,rv,ptrs,c,h⟩:=h;obtain ⟨g,cap,rfl,hle,hg⟩:=h.open
 have c0:w.cell? ⟨p,0,none⟩=some (.slice (some ⟨g,0,none⟩) r.qs.length cap):=h.head.cell 0
 unfold runqList
 by_cases hm:mayF r.qs.length cpu=0
 ·obtain ⟨i,rfl,hi⟩:=may_yes hm
  have B:=Hd (plist_any w (h.qs i hi))
  have ci:=hg i hi
  rw [hm] at A ⊢;clear h hg hm
  simp only [Int.toNat_natCast,ne_eq,not_true,if_false] at B ⊢
  generalize prioList (r.qs.getD i noPrio)=L at *;generalize r.qs.length=n at *
  go_enter func250,ntmps250
  go_wp2_with fail;refine A.out.mono ?_;rintro e w1 ⟨rfl,rfl⟩;go_wp2_with fail;refine B.out.mono ?_;rintro e w1 ⟨⟨v,rfl,hv⟩,hb⟩;replace hv:=Hd hv;replace hb:=Hd hb;go_wp2;go_returns
  exact ⟨⟨v,rfl,hv.out⟩,hb.out⟩
 ·have e:=may_no hm
  rw [e] at A ⊢;clear h hg hm e
  go_enter func250,ntmps250
  go_wp2_with fail;refine A.out.mono ?_;rintro e w1 ⟨rfl,rfl⟩;go_wp2;go_returns
  exact ⟨⟨_,rfl,IntsAt.nil _ _⟩,Below.refl _ _⟩
def runqPutW (r:Runq) (cpu d:Int) (u:Prio × Int):Runq × Int:=(⟨r.qs.set cpu.toNat u.1,if u.2=0 then mput r.wh d cpu else r.wh⟩,u.2)
def runqPut (r:Runq) (cpu prio d:Int):Runq × Int :=
 if mayF r.qs.length cpu≠0 then (r,3) else
 if (mget r.wh d).isSome then (r,6) else
 runqPutW r cpu d (prioPush (r.qs.getD cpu.toNat noPrio) prio d)
theorem rput_any (w:World) {r:Runq} (h:RunqAt w F p r) (cpu prio d:Int):Calls prog 217 #[.pointer (some ⟨p,0,none⟩),.int .i64 cpu,.int .i64 prio,.int .i64 d] w fun e w'=>e=.returned (.int .i64 (runqPut r cpu prio d).2)∧RunqAt w' (Plus w w' F) p (runqPut r cpu prio d).1∧Ch F w w':=by
 have HT:=Hd h;have A:=Hd (rmay_any w h cpu);obtain ⟨wb,rv,ptrs,c,h⟩:=h;obtain ⟨g,cap,rfl,hle,hg⟩:=h.open
 have c0:w.cell? ⟨p,0,none⟩=some (.slice (some ⟨g,0,none⟩) r.qs.length cap):=h.head.cell 0
 have c1:w.cell? ⟨p,1,none⟩=some (.map (some wb)):=h.head.cell 1
 have hl:=h.map.look underlying95 underlying3 (zero3 w) d
 unfold runqPut
 by_cases hm:mayF r.qs.length cpu=0
 ·obtain ⟨i,rfl,hi⟩:=may_yes hm
  have ci:=hg i hi
  rw [hm] at A ⊢;rw [if_neg (by simp)]
  cases hs:(mget r.wh d).isSome with
  | true =>
   rw [hs] at hl;clear h hg hm hs;generalize (mget r.wh d).getD 0=v at *
   go_enter func217,ntmps217
   go_wp2_with fail;refine A.out.mono ?_;rintro e w1 ⟨rfl,rfl⟩;go_wp2;go_returns
   exact ⟨rfl,by rw [Plus.self];exact HT.out,Ch.refl _ _⟩
  | false =>
   rw [hs] at hl
   have B:=Hd (ppush_any w (h.qs i hi) prio d)
   have H:=Hd h;have hi':=Hd hi;clear h hg hm hs
   simp only [Int.toNat_natCast,Bool.false_eq_true,if_false] at B ⊢
   generalize (mget r.wh d).getD 0=v at *;generalize prioPush (r.qs.getD i noPrio) prio d=u at *;obtain ⟨u1,u2⟩:=u;unfold runqPutW;dsimp only at *
   obtain ⟨n,hn⟩:∃ n,n=r.qs.length:=⟨_,rfl⟩
   rw [← hn] at c0 hi hle;clear hn
   have hne:p≠wb:=fun e=>by subst e;have:=H.out.fp.2.symm.trans H.out.fm.2;omega
   by_cases hu:u2=0
   ·subst hu
    rw [if_pos rfl]
    go_enter func217,ntmps217
    go_wp2_with fail;refine A.out.mono ?_;rintro e w1 ⟨rfl,rfl⟩;go_wp2_with fail;refine B.out.mono ?_;rintro e w2 ⟨rfl,h1,h2⟩
    have hX:=H.out.turn hi'.out h1 h2
    have c1':w2.cell? ⟨p,1,none⟩=some (.map (some wb)):=hX.head.cell 1
    have hput:=run_put (P:=prog) hX.map underlying95 underlying3 d (.int .i64 i)
    replace hX:=Hd hX;replace h2:=Hd h2;clear h1;go_wp2;go_returns
    have hy:=hX.out.put d i (by have:=hi'.out;simp;omega)
    rw [Plus.of_size' (w':=mapPut w2 wb d (.int .i64 i)) (by simp)] at hy
    exact ⟨rfl,⟨_,_,_,_,hy⟩,(Col.ch h2.out).mapPut (fun _=>H.out.fm.1) d _⟩
   ·have hu':(u2 == 0)=false:=by simpa using hu
    rw [if_neg hu];clear hu
    go_enter func217,ntmps217
    go_wp2_with fail;refine A.out.mono ?_;rintro e w1 ⟨rfl,rfl⟩;go_wp2_with fail;refine B.out.mono ?_;rintro e w2 ⟨rfl,h1,h2⟩;replace h1:=Hd h1;replace h2:=Hd h2;go_wp2;go_returns
    exact ⟨rfl,⟨_,_,_,_,H.out.turn hi'.out h1.out h2.out⟩,Col.ch h2.out⟩
 ·have e:=may_no hm
  rw [e] at A ⊢;clear h hg hm e
  go_enter func217,ntmps217
  go_wp2_with fail;refine A.out.mono ?_;rintro e w1 ⟨rfl,rfl⟩;go_wp2;go_returns
  exact ⟨rfl,by rw [Plus.self];exact HT.out,Ch.refl _ _⟩
theorem info178:(prog.info? 178).map (fun i=>(i.zero,i.size,i.bytes))=some (some (.pointer none),1,8):=by kernel_rfl
def prio0:Prio:=⟨List.replicate 8 [],[]⟩
structure RunqPart (w w':World) (p wb k:Nat) (rv:Value) (ptrs c:Nat→Nat):Prop where
 head:Blk w' p #[rv,.map (some wb)] 181
 row:RowAt w' (Col (Plus w w' (fun _=>False)) c 1) 178 1 rv k (ptrL ptrs k)
 map:IMapAt w' wb []
 fp:Col (Plus w w' (fun _=>False)) c 0 p
 fm:Col (Plus w w' (fun _=>False)) c 2 wb
 qs:∀ i,i < k→PrioAt w' (Col (Plus w w' (fun _=>False)) c (3+i)) (ptrs i) prio0
 below:Below w.heap.size w w'
open Classical in
theorem RunqPart.step {w w1 w2 w3:World} {o:Obj} {p wb k x:Nat} {rv v':Value} {ptrs c:Nat→Nat} (h:RunqPart w w1 p wb k rv ptrs c) (hx:PrioAt w2 (Plus w1 w2 (fun _=>False)) x prio0) (hb:Below w1.heap.size w1 w2)
  (hr:RowAt w3 (Plus (w2.alloc o) w3 (Col (Plus w w1 (fun _=>False)) c 1)) 178 1 v' (k+1) (ptrL ptrs k++[.pointer (some ⟨x,0,none⟩)])) (hc:Ch (Col (Plus w w1 (fun _=>False)) c 1) (w2.alloc o) w3) :
  ∃ c',RunqPart w (w3.setCell ⟨p,0,none⟩ v') p wb (k+1) v' (fun i=>if i=k then x else ptrs i) c':=by
 have s1:=h.below.size;have s2:=hb.size
 have s3:w2.heap.size+1≤w3.heap.size:=by have:=hc.size;simpa using this
 have hlt:=h.head.lt
 have hoff:Ch (fun _=>False) w1 w2:=Ch.off hb
 have hc13:Ch (Col (Plus w w1 (fun _=>False)) c 1) w1 w3:=((hoff.mono (fun _ _ h=>h.elim)).alloc o).trans (hc.mono (fun _ _ h=>h))
 have hc14:Ch (fun b=>Col (Plus w w1 (fun _=>False)) c 1 b∨b=p) w1 (w3.setCell ⟨p,0,none⟩ v'):=(hc13.mono (fun _ _ h=>.inl h)).setCell (p:=⟨p,0,none⟩) (fun _=>.inr rfl) _
 obtain ⟨c',hc'⟩:∃ c':Nat→Nat,c'=fun b=>if b < w1.heap.size then c b else if b < w2.heap.size then 3+k else 1:=⟨_,rfl⟩
 have old:∀ i b,Col (Plus w w1 (fun _=>False)) c i b→Col (Plus w (w3.setCell ⟨p,0,none⟩ v') (fun _=>False)) c' i b:=fun i b hb'=>by
  have h1:=plus0_lt b hb'.1
  refine ⟨.inr ⟨hb'.1.elim (fun e=>e.elim) (fun e=>e.1),by simp;omega⟩,?_⟩
  rw [hc']
  simp only [h1,if_true]
  exact hb'.2
 have ne1:∀ i,i≠1→i≠0→∀ b,Col (Plus w w1 (fun _=>False)) c i b→¬ (Col (Plus w w1 (fun _=>False)) c 1 b∨b=p):=fun i h1 h0 b hb' e=>e.elim (fun e=>by have:=hb'.2.symm.trans e.2;omega) (fun e=>by subst e;have:=hb'.2.symm.trans h.fp.2;omega)
 refine ⟨c',?_,?_,h.map.ch hc14 (ne1 2 (by omega) (by omega) _ h.fm),old _ _ h.fp,old _ _ h.fm,fun i hi=>?_,?_⟩
 ·have h1:Blk w3 p #[rv,.map (some wb)] 181:=h.head.ch hc13 (Col.apart (by omega) _ h.fp)
  exact h1.set 0 v'
 ·rw [ptrL_succ]
  refine (hr.ch ((Ch.refl (fun b=>b=p) w3).put 0 v') (fun b hb' e=>?_)).mono (fun b hb'=>?_)
  ·have e:b=p:=e
   subst e
   exact hb'.elim (fun e=>by have:=e.2.symm.trans h.fp.2;omega) (fun e=>by have:=e.1;simp at this;omega)
  ·refine hb'.elim (old 1 b) (fun e=>?_)
   have e1:=e.1;have e2:=e.2
   simp only [World.size_alloc] at e1
   refine ⟨.inr ⟨by omega,by simpa using e2⟩,?_⟩
   rw [hc']
   simp only [show ¬ b < w1.heap.size by omega,show ¬ b < w2.heap.size by omega,if_false]
 ·by_cases e:i=k
  ·subst e
   simp only [if_true]
   refine ((hx.ch ((Ch.refl (fun _=>False) w2).alloc o) (fun _ _ h=>h)).ch ((hc.mono (fun _ _ h=>.inl h)).setCell (F:=fun b=>Col (Plus w w1 (fun _=>False)) c 1 b∨b=p) (p:=⟨p,0,none⟩) (fun _=>.inr rfl) v') (fun b hb' e=>?_)).mono (fun b hb'=>?_) ?_
   ·have h1:w1.heap.size≤b:=hb'.elim (fun e=>e.elim) (fun e=>e.1)
    exact e.elim (fun e=>by have:=plus0_lt b e.1;omega) (fun e=>by omega)
   ·obtain ⟨h1,h2⟩:w1.heap.size≤b∧b < w2.heap.size:=hb'.elim (fun e=>e.elim) (fun e=>e)
    refine ⟨.inr ⟨by omega,by simp;omega⟩,?_⟩
    rw [hc']
    simp only [show ¬ b < w1.heap.size by omega,h2,if_false,if_true]
   ·exact fun b hb'=>plus0_lt b hb'.1
  ·simp only [e,if_false]
   exact ((h.qs i (by omega)).ch hc14 (ne1 (3+i) (by omega) (by omega))).mono (old _) (fun b hb'=>plus0_lt b hb'.1)
 ·have h3:Below w.heap.size w w3:=⟨hc13.os.trans h.below.os,hc13.tape.trans h.below.tape,hc13.output.trans h.below.output,by omega,fun j hj=>(hc13.block j (by omega) (fun e=>by have:=e.1.elim (fun e=>e.elim) (fun e=>e.1);omega)).trans (h.below.block j hj)⟩
  have hp:w.heap.size≤p:=h.fp.1.elim (fun e=>e.elim) (fun e=>e.1)
  exact h3.setCell (p:=⟨p,0,none⟩) hp v'
def runq0 (cpus:Nat):Runq:=⟨List.replicate cpus prio0,[]⟩
theorem runq_new (w:World) (cpus:Nat) (h1:1≤cpus) (h64:cpus≤64):Calls prog 52 #[.int .i64 cpus] w fun e w'=>(∃ p,e=.returned (.tuple #[.pointer (some ⟨p,0,none⟩),.int .i64 0])∧RunqAt w' (Plus w w' (fun _=>False)) p (runq0 cpus))∧Below w.heap.size w w':=by
 have hmm:=@run_makeMap prog
 go_enter func52,ntmps52
 go_wp2
 have H0:RunqPart w ((w.alloc (.map #[] 0)).alloc (.cells #[.slice none 0 0,.map (some w.heap.size)] 181)) (w.heap.size+1) w.heap.size 0 (.slice none 0 0) (fun _=>0) (fun b=>if b=w.heap.size then 2 else 0):=by
  refine ⟨Blk.at _ _ (by simp),RowAt.nil _ _ _ _,MapAt.ch (MapAt.new w) ((Ch.refl (fun _=>False) _).alloc _) (fun h=>h),⟨.inr ⟨by omega,by simp⟩,by simp⟩,⟨.inr ⟨by omega,by simp;omega⟩,by simp⟩,fun i hi=>by omega,((Below.refl _ _).alloc (Nat.le_refl _) _).alloc (by simp) _⟩
 replace H0:=Hd H0
 go_loopw [17,5,6] (fun iv _ _ wr=>∃ k:Nat,iv=.int .i64 k∧k≤cpus∧∃ rv ptrs c,Hid (RunqPart w wr (w.heap.size+1) w.heap.size k rv ptrs c)) (fun iv _ _ _=>cpus - (intOf iv).toNat)
 case atStart=>exact ⟨0,rfl,by omega,_,_,_,H0⟩
 case round =>
  clear H0 hmm;obtain ⟨k,rfl,hk,rv,ptrs,c,H⟩:=hrel
  by_cases hlt:k < cpus
  ·have A:=Hd (prio_new wr)
   have c0:wr.cell? ⟨w.heap.size+1,0,none⟩=some rv:=H.out.head.cell 0
   obtain ⟨base,cap,rfl⟩:=H.out.row.form;go_wp2_with fail;refine A.out.mono ?_;rintro e w2 ⟨⟨x,rfl,hx⟩,hb⟩
   have hz:=(H.out.head.ch (Ch.off hb) (fun h=>h))
   have c2:w2.cell? ⟨w.heap.size+1,0,none⟩=some (.slice base k cap):=hz.cell 0
   have hrow:=fun o=>RowAt.ch H.out.row (((Ch.off hb)).alloc o) (fun _ _ h=>h)
   replace hrow:=Hd hrow;replace hx:=Hd hx;have HB:=Hd hb;replace hz:=Hd hz;clear hb
   go_wp2_with (at_builtin;refine wpList_app rfl _ _ 179 rfl info178 underlying179 rfl (by omega) (hrow.out _) (a:=⟨w2.heap.size,0,none⟩) (m:=1) (c:=1) (news:=[.pointer (some ⟨x,0,none⟩)]) rfl rfl rfl ?_ (by simp [Value.oneCell']) (by omega) (by unfold maxLen;omega) (by omega) ?_)
   ·intro j u hj
    cases j with
    | zero =>
     have:u=.pointer (some ⟨x,0,none⟩):=by simpa using hj.symm
     subst this
     exact cell_at1 _ _ rfl
    | succ j=>simp at hj
   ·intro v' w3 h5 h6
    have hz3:=(hz.out.alloc _).ch h6 (Col.apart (by omega) _ H.out.fp)
    have c3:w3.cell? ⟨w.heap.size+1,0,none⟩=some (.slice base k cap):=hz3.cell 0
    have f3:w3.frozen? ⟨w.heap.size+1,0,none⟩=false:=hz3.frozen 0
    obtain ⟨base',cap',rfl⟩:=h5.form
    obtain ⟨c',hst⟩:=H.out.step hx.out HB.out h5 h6
    replace hst:=Hd hst;clear hz3 h5 h6 hz hrow hx HB H A;go_wp2;go_roundw
    case rel=>exact ⟨k+1,by go_num,hlt,_,_,_,hst⟩
    case measure=>simp [intOf];omega
  ·have:k=cpus:=by omega
   subst this;go_wp2;go_returns;have H2:=H.out
   refine ⟨⟨_,rfl,_,_,ptrs,c,H2.head,?_,H2.map,H2.fp,H2.fm,plus0_lt,fun i hi=>?_,by simpa [runq0] using h1,by simpa [runq0] using h64,fun x hx=>by cases hx⟩,H2.below⟩
   ·simpa [runq0] using H2.row
   ·have hi':i < k:=by simpa [runq0] using hi
    have e:(runq0 k).qs.getD i noPrio=prio0:=by simp [runq0,hi']
    rw [e]
    exact H2.qs i hi'
theorem Tab.two (h:Tab w):2 < w.heap.size:=World.block_lt_of_cell? w _ (h 0 (by decide))
def bestF (load:Int→Int) (better:Int→Int→Bool) (l:List Int):Int:=l.foldl (fun a cpu=>if better (load cpu) (load a) then cpu else a) (l.headD 0)
def runqBest (r:Runq) (better:Int→Int→Bool) (m:Nat):Int × Int :=
 if listF (m &&& uptoF r.qs.length)=[] then (0,12) else (bestF (runqLoad r) better (listF (m &&& uptoF r.qs.length)),0)
def moreF (a b:Int):Bool:=decide (b < a)
def fewerF (a b:Int):Bool:=decide (a < b)
theorem more_any (a b:Int) (w:World):Calls prog 302 #[.int .i64 a,.int .i64 b] w fun e w'=>e=.returned (.bool (moreF a b))∧w=w':=by
 unfold moreF
 go_enter func302,ntmps302
 go_wp2;go_returns
 exact ⟨rfl,rfl⟩
theorem fewer_any (a b:Int) (w:World):Calls prog 303 #[.int .i64 a,.int .i64 b] w fun e w'=>e=.returned (.bool (fewerF a b))∧w=w':=by
 unfold fewerF
 go_enter func303,ntmps303
 go_wp2;go_returns
 exact ⟨rfl,rfl⟩
theorem rbest_busy (w:World) (hT:Tab w) {r:Runq} (h:RunqAt w F p r) (m:Nat) (hm:m < top64):Calls prog 301 #[.pointer (some ⟨p,0,none⟩),.int .u64 m,.func (.func 302) #[] #[]] w fun e w'=>e=.returned (.tuple #[.int .i64 (runqBest r moreF m).1,.int .i64 (runqBest r moreF m).2])∧Below w.heap.size w w':=by
 have HT:=Hd h;have h2:=hT.two;have hT:=Hd hT;unfold runqBest;obtain ⟨wb,rv,ptrs,c,h⟩:=h;obtain ⟨g,cap,rfl,hle,hg⟩:=h.open
 have c0:w.cell? ⟨p,0,none⟩=some (.slice (some ⟨g,0,none⟩) r.qs.length cap):=h.head.cell 0
 have A:=Hd (upto_any r.qs.length w)
 have B:=Hd (and_any m (uptoF r.qs.length) hm (uptoF_lt _) w)
 have hlt:=(Nat.lt_of_le_of_lt Nat.and_le_left hm:m &&& uptoF r.qs.length < top64)
 have D:=Hd (mlist_any (m &&& uptoF r.qs.length) hlt w hT.out h2)
 clear h hg;generalize r.qs.length=n at *;generalize m &&& uptoF n=u at *;generalize listF u=l at *
 cases l with
 | nil =>
  rw [if_pos rfl]
  go_enter func301,ntmps301
  go_wp2_with fail;refine A.out.mono ?_;rintro e w1 ⟨rfl,rfl⟩;go_wp2_with fail;refine B.out.mono ?_;rintro e w1 ⟨rfl,rfl⟩;go_wp2_with fail;refine D.out.mono ?_;rintro e w1 ⟨⟨v,rfl,hv⟩,hb⟩
  obtain ⟨base,cap,rfl⟩:=RowAt.form hv
  replace hb:=Hd hb;clear hv;go_wp2;go_returns
  exact ⟨rfl,hb.out⟩
 | cons x t =>
  rw [if_neg (by simp)]
  obtain ⟨L,hL⟩:∃ L,L=x::t:=⟨_,rfl⟩
  have hx:L.headD 0=x:=by rw [hL];rfl
  rw [← hL] at D ⊢
  have hpos:0 < L.length:=by rw [hL];simp
  have hx0:L.getD 0 0=x:=by rw [hL];rfl
  clear hL
  obtain ⟨N,hN⟩:∃ N,N=L.length:=⟨_,rfl⟩
  rw [← hN] at hpos;replace hN:=Hd hN
  have hNe:((N:Int) == 0)=false:=by simp;omega
  unfold bestF;rw [hx]
  go_enter func301,ntmps301
  go_wp2_with fail;refine A.out.mono ?_;rintro e w1 ⟨rfl,rfl⟩;go_wp2_with fail;refine B.out.mono ?_;rintro e w1 ⟨rfl,rfl⟩;go_wp2_with fail;refine D.out.mono ?_;rintro e w1 ⟨⟨v,rfl,hv⟩,hb⟩;have HR:=Hd (HT.out.below hb);replace hb:=Hd hb
  obtain ⟨b,bc,rfl,hl1,hl2,-,-,hcell,-⟩:=IntsAt.open hv (by rw [← hN.out];exact hpos)
  have hNb:N≤9223372036854775807:=by have:=hN.out;unfold maxLen at hl2;omega
  clear hl1 hl2;rw [← hN.out] at hcell;rw [← hN.out]
  have cz:w1.cell? ⟨b,0,none⟩=some (.int .i64 x):=by rw [hcell 0 hpos,hx0]
  clear hv;replace hcell:=Hd hcell;go_wp2
  go_loop [31,9,11] (fun iv av _=>∃ k:Nat,iv=.int .i64 k∧k≤N∧av=.int .i64 ((L.take k).foldl (fun a cpu=>if moreF (runqLoad r cpu) (runqLoad r a) then cpu else a) x)) (fun iv _ _=>N - (intOf iv).toNat)
  case atStart=>exact ⟨0,rfl,by omega,rfl⟩
  case round =>
   obtain ⟨k,rfl,hk,rfl⟩:=hrel
   by_cases hlt:k < N
   ·have ck:=hcell.out k hlt
    have hg2:L[k]? = some (L.getD k 0):=by rw [List.getD_eq_getElem?_getD,List.getElem?_eq_getElem (by rw [← hN.out];exact hlt)];rfl
    have hs:L.take (k+1)=L.take k++[L.getD k 0]:=by rw [List.take_add_one,hg2];rfl
    obtain ⟨y,hy⟩:∃ y,y=L.getD k 0:=⟨_,rfl⟩
    rw [← hy] at ck hs;clear hg2;replace hs:=Hd hs;replace hy:=Hd hy
    obtain ⟨z,hz⟩:∃ z,z=(L.take k).foldl (fun a cpu=>if moreF (runqLoad r cpu) (runqLoad r a) then cpu else a) x:=⟨_,rfl⟩
    rw [← hz];replace hz:=Hd hz;have U:=Hd (rload_any w1 HR.out y);have V:=Hd (rload_any w1 HR.out z)
    have W:=Hd (more_any (runqLoad r y) (runqLoad r z) w1)
    obtain ⟨bb,hbb⟩:∃ bb,bb=moreF (runqLoad r y) (runqLoad r z):=⟨_,rfl⟩
    rw [← hbb] at W;replace hbb:=Hd hbb
    cases bb
    all_goals
     go_wp2_with fail;refine U.out.mono ?_;rintro e w1 ⟨rfl,rfl⟩;go_wp2_with fail;refine V.out.mono ?_;rintro e w1 ⟨rfl,rfl⟩;go_wp2_with fail;refine W.out.mono ?_;rintro e w1 ⟨rfl,rfl⟩;go_wp2
     go_round
     case rel=>exact ⟨k+1,by go_num,hlt,by rw [hs.out,List.foldl_append,← hz.out];simp only [List.foldl_cons,List.foldl_nil,← hbb.out];rfl⟩
     case measure=>simp [intOf];omega
   ·have:k=N:=by omega
    subst this;go_wp2;go_returns
    have e:L.take k=L:=by rw [hN.out];exact List.take_length
    rw [e]
    exact ⟨rfl,hb.out⟩
theorem rbusy_any (w:World) (hT:Tab w) {r:Runq} (h:RunqAt w F p r) (m:Nat) (hm:m < top64):Calls prog 247 #[.pointer (some ⟨p,0,none⟩),.int .u64 m] w fun e w'=>e=.returned (.tuple #[.int .i64 (runqBest r moreF m).1,.int .i64 (runqBest r moreF m).2])∧Below w.heap.size w w':=by
 have A:=Hd (rbest_busy w hT h m hm);clear h hT;generalize runqBest r moreF m=u at *
 go_enter func247,ntmps247
 go_wp2_with fail;refine A.out.mono ?_;rintro e w1 ⟨rfl,hb⟩;replace hb:=Hd hb;go_wp2;go_returns
 exact ⟨rfl,hb.out⟩
theorem rbest_idle (w:World) (hT:Tab w) {r:Runq} (h:RunqAt w F p r) (m:Nat) (hm:m < top64):Calls prog 301 #[.pointer (some ⟨p,0,none⟩),.int .u64 m,.func (.func 303) #[] #[]] w fun e w'=>e=.returned (.tuple #[.int .i64 (runqBest r fewerF m).1,.int .i64 (runqBest r fewerF m).2])∧Below w.heap.size w w':=by
 have HT:=Hd h;have h2:=hT.two;have hT:=Hd hT;unfold runqBest;obtain ⟨wb,rv,ptrs,c,h⟩:=h;obtain ⟨g,cap,rfl,hle,hg⟩:=h.open
 have c0:w.cell? ⟨p,0,none⟩=some (.slice (some ⟨g,0,none⟩) r.qs.length cap):=h.head.cell 0
 have A:=Hd (upto_any r.qs.length w)
 have B:=Hd (and_any m (uptoF r.qs.length) hm (uptoF_lt _) w)
 have hlt:=(Nat.lt_of_le_of_lt Nat.and_le_left hm:m &&& uptoF r.qs.length < top64)
 have D:=Hd (mlist_any (m &&& uptoF r.qs.length) hlt w hT.out h2)
 clear h hg;generalize r.qs.length=n at *;generalize m &&& uptoF n=u at *;generalize listF u=l at *
 cases l with
 | nil =>
  rw [if_pos rfl]
  go_enter func301,ntmps301
  go_wp2_with fail;refine A.out.mono ?_;rintro e w1 ⟨rfl,rfl⟩;go_wp2_with fail;refine B.out.mono ?_;rintro e w1 ⟨rfl,rfl⟩;go_wp2_with fail;refine D.out.mono ?_;rintro e w1 ⟨⟨v,rfl,hv⟩,hb⟩
  obtain ⟨base,cap,rfl⟩:=RowAt.form hv
  replace hb:=Hd hb;clear hv;go_wp2;go_returns
  exact ⟨rfl,hb.out⟩
 | cons x t =>
  rw [if_neg (by simp)]
  obtain ⟨L,hL⟩:∃ L,L=x::t:=⟨_,rfl⟩
  have hx:L.headD 0=x:=by rw [hL];rfl
  rw [← hL] at D ⊢
  have hpos:0 < L.length:=by rw [hL];simp
  have hx0:L.getD 0 0=x:=by rw [hL];rfl
  clear hL
  obtain ⟨N,hN⟩:∃ N,N=L.length:=⟨_,rfl⟩
  rw [← hN] at hpos;replace hN:=Hd hN
  have hNe:((N:Int) == 0)=false:=by simp;omega
  unfold bestF;rw [hx]
  go_enter func301,ntmps301
  go_wp2_with fail;refine A.out.mono ?_;rintro e w1 ⟨rfl,rfl⟩;go_wp2_with fail;refine B.out.mono ?_;rintro e w1 ⟨rfl,rfl⟩;go_wp2_with fail;refine D.out.mono ?_;rintro e w1 ⟨⟨v,rfl,hv⟩,hb⟩;have HR:=Hd (HT.out.below hb);replace hb:=Hd hb
  obtain ⟨b,bc,rfl,hl1,hl2,-,-,hcell,-⟩:=IntsAt.open hv (by rw [← hN.out];exact hpos)
  have hNb:N≤9223372036854775807:=by have:=hN.out;unfold maxLen at hl2;omega
  clear hl1 hl2;rw [← hN.out] at hcell;rw [← hN.out]
  have cz:w1.cell? ⟨b,0,none⟩=some (.int .i64 x):=by rw [hcell 0 hpos,hx0]
  clear hv;replace hcell:=Hd hcell;go_wp2
  go_loop [31,9,11] (fun iv av _=>∃ k:Nat,iv=.int .i64 k∧k≤N∧av=.int .i64 ((L.take k).foldl (fun a cpu=>if fewerF (runqLoad r cpu) (runqLoad r a) then cpu else a) x)) (fun iv _ _=>N - (intOf iv).toNat)
  case atStart=>exact ⟨0,rfl,by omega,rfl⟩
  case round =>
   obtain ⟨k,rfl,hk,rfl⟩:=hrel
   by_cases hlt:k < N
   ·have ck:=hcell.out k hlt
    have hg2:L[k]? = some (L.getD k 0):=by rw [List.getD_eq_getElem?_getD,List.getElem?_eq_getElem (by rw [← hN.out];exact hlt)];rfl
    have hs:L.take (k+1)=L.take k++[L.getD k 0]:=by rw [List.take_add_one,hg2];rfl
    obtain ⟨y,hy⟩:∃ y,y=L.getD k 0:=⟨_,rfl⟩
    rw [← hy] at ck hs;clear hg2;replace hs:=Hd hs;replace hy:=Hd hy
    obtain ⟨z,hz⟩:∃ z,z=(L.take k).foldl (fun a cpu=>if fewerF (runqLoad r cpu) (runqLoad r a) then cpu else a) x:=⟨_,rfl⟩
    rw [← hz];replace hz:=Hd hz;have U:=Hd (rload_any w1 HR.out y);have V:=Hd (rload_any w1 HR.out z)
    have W:=Hd (fewer_any (runqLoad r y) (runqLoad r z) w1)
    obtain ⟨bb,hbb⟩:∃ bb,bb=fewerF (runqLoad r y) (runqLoad r z):=⟨_,rfl⟩
    rw [← hbb] at W;replace hbb:=Hd hbb
    cases bb
    all_goals
     go_wp2_with fail;refine U.out.mono ?_;rintro e w1 ⟨rfl,rfl⟩;go_wp2_with fail;refine V.out.mono ?_;rintro e w1 ⟨rfl,rfl⟩;go_wp2_with fail;refine W.out.mono ?_;rintro e w1 ⟨rfl,rfl⟩;go_wp2
     go_round
     case rel=>exact ⟨k+1,by go_num,hlt,by rw [hs.out,List.foldl_append,← hz.out];simp only [List.foldl_cons,List.foldl_nil,← hbb.out];rfl⟩
     case measure=>simp [intOf];omega
   ·have:k=N:=by omega
    subst this;go_wp2;go_returns
    have e:L.take k=L:=by rw [hN.out];exact List.take_length
    rw [e]
    exact ⟨rfl,hb.out⟩
theorem ridle_any (w:World) (hT:Tab w) {r:Runq} (h:RunqAt w F p r) (m:Nat) (hm:m < top64):Calls prog 248 #[.pointer (some ⟨p,0,none⟩),.int .u64 m] w fun e w'=>e=.returned (.tuple #[.int .i64 (runqBest r fewerF m).1,.int .i64 (runqBest r fewerF m).2])∧Below w.heap.size w w':=by
 have A:=Hd (rbest_idle w hT h m hm);clear h hT;generalize runqBest r fewerF m=u at *
 go_enter func248,ntmps248
 go_wp2_with fail;refine A.out.mono ?_;rintro e w1 ⟨rfl,hb⟩;replace hb:=Hd hb;go_wp2;go_returns
 exact ⟨rfl,hb.out⟩
def rightF (t:Int):Bool:=decide (0≤t) && decide (t≤1152921504606846976)
theorem wright_any (t:Int) (w:World):Calls prog 184 #[.int .i64 t] w fun e w'=>e=.returned (.bool (rightF t))∧w=w':=by
 unfold rightF
 by_cases h0:0≤t
 ·by_cases h1:t≤1152921504606846976
  ·rw [decide_eq_true h0,decide_eq_true h1]
   go_enter func184,ntmps184
   go_wp2;go_returns
   exact ⟨rfl,rfl⟩
  ·have e1:decide (t≤1152921504606846976)=false:=by simpa using h1
   rw [decide_eq_true h0,e1]
   go_enter func184,ntmps184
   go_wp2;go_returns
   exact ⟨rfl,rfl⟩
 ·have e0:decide (0≤t)=false:=by simpa using h0
  rw [e0]
  go_enter func184,ntmps184
  go_wp2;go_returns
  exact ⟨rfl,rfl⟩
def levelF (a b:Nat):Nat:=(Lib.bitLen (a ^^^ b) - 1) / 3
def digitF (a l:Nat):Nat:=a / 2 ^ (3*l) % 8
theorem i64_xor_nat (a b:Nat) (ha:a < 9223372036854775808) (hb:b < 9223372036854775808):bits .xor .i64 (a:Int) (b:Int)=((a ^^^ b:Nat):Int):=by
 have hx:a ^^^ b < 2 ^ 63:=Nat.xor_lt_two_pow (by omega) (by omega)
 show IntKind.i64.wrap ((BitVec.ofInt 64 (a:Int) ^^^ BitVec.ofInt 64 (b:Int)).toNat:Int)=_
 rw [BitVec.toNat_xor,show (BitVec.ofInt 64 (a:Int)).toNat=a by rw [BitVec.toNat_ofInt];omega,show (BitVec.ofInt 64 (b:Int)).toNat=b by rw [BitVec.toNat_ofInt];omega,IntKind.wrap_i64]
 omega
theorem bitLen_pos {x:Nat} (h:x≠0):1≤Lib.bitLen x:=by
 unfold Lib.bitLen;rw [Lib.bitLenAux]
 simp only [h,if_false]
 omega
theorem level_le {a b:Nat} (ha:a≤1152921504606846976) (hb:b≤1152921504606846976):levelF a b≤20:=by
 have h1:a ^^^ b < 2 ^ 61:=Nat.xor_lt_two_pow (by omega) (by omega)
 have:=Lib.bitLen_le (a ^^^ b) 61 (by omega) h1
 unfold levelF
 omega
theorem wlevel_any (a b:Nat) (ha:a≤1152921504606846976) (hb:b≤1152921504606846976) (hab:a≠b) (w:World):Calls prog 279 #[.int .i64 a,.int .i64 b] w fun e w'=>e=.returned (.int .i64 (levelF a b:Nat))∧w=w':=by
 have hx:a ^^^ b < 2 ^ 61:=Nat.xor_lt_two_pow (by omega) (by omega)
 have hx0:a ^^^ b≠0:=by
  intro e
  have e2:=congrArg (· ^^^ b) e
  simp only [Nat.xor_assoc,Nat.xor_self,Nat.xor_zero,Nat.zero_xor] at e2
  exact hab e2
 have hl1:=bitLen_pos hx0
 have hl2:=Lib.bitLen_le (a ^^^ b) 61 (by omega) hx
 have e1:=i64_xor_nat a b (by omega) (by omega)
 have A:=Hd ((bits_Len64 ((a ^^^ b:Nat):Int) w (by omega) (by omega)).mono (R':=fun e w'=>e=.returned (.int .i64 (Lib.bitLen (a ^^^ b):Nat))∧w=w') (by rintro e w' ⟨h,h2⟩;rw [Int.toNat_natCast] at h;exact ⟨h,h2.symm⟩))
 unfold levelF;generalize a ^^^ b=x at *;generalize Lib.bitLen x=l at *;clear hab
 go_enter func279,ntmps279
 go_wp2_with fail;refine A.out.mono ?_;rintro e w1 ⟨rfl,rfl⟩;go_wp2;go_returns
 refine ⟨?_,rfl⟩
 have e:((l:Int) - 1) / 3=((l - 1) / 3:Nat):=by omega
 show Ending.returned (Value.int .i64 (((l:Int) - 1) / 3))=_
 rw [e]
theorem wdigit_any (a l:Nat) (ha:a≤1152921504606846976) (hl:l≤20) (w:World):Calls prog 281 #[.int .i64 a,.int .i64 l] w fun e w'=>e=.returned (.int .i64 (digitF a l:Nat))∧w=w':=by
 go_enter func281,ntmps281
 go_wp2;go_returns
 refine ⟨?_,rfl⟩
 have e:((a:Int) / 2 ^ (3*l)).tmod 8=(digitF a l:Nat):=by
  unfold digitF;rw [show ((a:Int) / 2 ^ (3*l))=((a / 2 ^ (3*l):Nat):Int) by simp];generalize a / 2 ^ (3*l)=q;rw [Int.tmod_eq_emod_of_nonneg (by omega)]
  omega
 show Ending.returned (Value.int .i64 (((a:Int) / 2 ^ (3*l)).tmod 8))=_
 rw [e]
structure Wheel where
 now:Nat
 dues:List (Int × Int)
 ls:List (List Int)
def wheelCells (now:Nat) (mb:Nat) (sv:Nat→Value):Array Value:=(Value.int .i64 now::Value.map (some mb)::(List.range 169).map sv).toArray
theorem wheelCells_get (now mb:Nat) (sv:Nat→Value) (i:Nat) (h:i < 169):(wheelCells now mb sv)[2+i]? = some (sv i):=by
 unfold wheelCells;rw [List.getElem?_toArray,show 2+i=(i+1)+1 by omega,List.getElem?_cons_succ,List.getElem?_cons_succ,List.getElem?_map,List.getElem?_range h]
 rfl
theorem wheelCells_set (now mb:Nat) (sv:Nat→Value) (i:Nat) (h:i < 169) (v:Value):(wheelCells now mb sv).setIfInBounds (2+i) v=wheelCells now mb (fun j=>if j=i then v else sv j):=by
 unfold wheelCells;rw [List.setIfInBounds_toArray,show 2+i=(i+1)+1 by omega,List.set_cons_succ,List.set_cons_succ]
 congr 3
 apply List.ext_getElem?
 intro k
 by_cases hk:k < 169
 ·rw [List.getElem?_set]
  simp only [List.getElem?_map,List.getElem?_range hk,Option.map_some,List.length_map,List.length_range]
  by_cases e:i=k
  ·subst e;simp [h]
  ·simp [e,Ne.symm e]
 ·rw [List.getElem?_eq_none (by simp;omega),List.getElem?_eq_none (by simp;omega)]
structure WheelAtQ (w:World) (F:Nat→Prop) (p mb:Nat) (sv:Nat→Value) (c:Nat→Nat) (s:Wheel):Prop where
 head:Blk w p (wheelCells s.now mb sv) 276
 map:IMapAt w mb s.dues
 fp:Col F c 0 p
 fm:Col F c 1 mb
 lt:∀ b,F b→b < w.heap.size
 ls:∀ i,i < 169→IntsAt w (Col F c (2+i)) (sv i) (s.ls.getD i [])
 len:s.ls.length=169
 now:s.now≤1152921504606846976
 ok:∀ x∈s.dues,0≤x.2∧x.2≤1152921504606846976
def WheelAt (w:World) (F:Nat→Prop) (p:Nat) (s:Wheel):Prop:=∃ mb sv c,WheelAtQ w F p mb sv c s
theorem WheelAtQ.ch {F G:Nat→Prop} {p mb:Nat} {sv:Nat→Value} {c:Nat→Nat} {s:Wheel} (h:WheelAtQ w F p mb sv c s) (hc:Ch G w w') (hd:∀ b,F b→¬ G b):WheelAtQ w' F p mb sv c s :=
 ⟨h.head.ch hc (hd _ h.fp.1),h.map.ch hc (hd _ h.fm.1),h.fp,h.fm,fun b hb=>Nat.lt_of_lt_of_le (h.lt b hb) hc.size,fun i hi=>(h.ls i hi).ch hc (fun b hb=>hd b hb.1),h.len,h.now,h.ok⟩
theorem WheelAt.ch {F G:Nat→Prop} {s:Wheel} (h:WheelAt w F p s) (hc:Ch G w w') (hd:∀ b,F b→¬ G b):WheelAt w' F p s:=by
 obtain ⟨mb,sv,c,h⟩:=h
 exact ⟨mb,sv,c,h.ch hc hd⟩
theorem WheelAt.below {s:Wheel} (h:WheelAt w F p s) (hb:Below w.heap.size w w'):WheelAt w' F p s:=h.ch (Ch.off hb) (fun _ _ h=>h)
theorem WheelAt.ltF {s:Wheel} (h:WheelAt w F p s):∀ b,F b→b < w.heap.size:=by
 obtain ⟨mb,sv,c,h⟩:=h
 exact h.lt
theorem WheelAt.mono {F G:Nat→Prop} {s:Wheel} (h:WheelAt w F p s) (hd:∀ b,F b→G b) (hG:∀ b,G b→b < w.heap.size):WheelAt w G p s:=by
 obtain ⟨mb,sv,c,h⟩:=h
 exact ⟨mb,sv,c,h.head,h.map,⟨hd _ h.fp.1,h.fp.2⟩,⟨hd _ h.fm.1,h.fm.2⟩,hG,fun i hi=>(h.ls i hi).mono (fun b hb=>⟨hd b hb.1,hb.2⟩),h.len,h.now,h.ok⟩
theorem WheelAtQ.at {p mb:Nat} {sv:Nat→Value} {c:Nat→Nat} {s:Wheel} (h:WheelAtQ w F p mb sv c s):WheelAt w F p s:=⟨mb,sv,c,h⟩
theorem WheelAtQ.set {p mb:Nat} {sv:Nat→Value} {c:Nat→Nat} {s:Wheel} (h:WheelAtQ w F p mb sv c s) {i:Nat} (hi:i < 169) {v:Value} {l:List Int} (hl:IntsAt w' (Plus w w' (Col F c (2+i))) v l) (hc:Ch (Col F c (2+i)) w w') :
  WheelAtQ (w'.setCell ⟨p,2+i,none⟩ v) (Plus w w' F) p mb (fun j=>if j=i then v else sv j) (recol w c (2+i)) ⟨s.now,s.dues,s.ls.set i l⟩:=by
 have hlt:=h.head.lt
 have hp:∀ j b,j≠0→Col F c j b→b≠p:=fun j b hj hb e=>by subst e;have:=hb.2.symm.trans h.fp.2;omega
 have hc2:Ch (fun b=>Col F c (2+i) b∨b=p) w (w'.setCell ⟨p,2+i,none⟩ v):=(hc.mono (fun _ _ h=>.inl h)).setCell (p:=⟨p,2+i,none⟩) (fun _=>.inr rfl) v
 have ap:∀ j,j≠0→j≠2+i→∀ b,Col F c j b→¬ (Col F c (2+i) b∨b=p):=fun j h0 hj b hb e=>e.elim (Col.apart hj b hb) (hp j b h0 hb)
 have hset:=(h.head.ch hc (Col.apart (by omega) _ h.fp)).set (2+i) v
 rw [wheelCells_set _ _ _ _ hi] at hset
 refine ⟨hset,h.map.ch hc2 (ap 1 (by omega) (by omega) _ h.fm),Col.old h.lt _ h.fp,Col.old h.lt _ h.fm,fun b hb=>by simpa using Plus.lt h.lt hc.size b hb,fun j hj=>?_,by simpa using h.len,h.now,h.ok⟩
 by_cases e:j=i
 ·subst e
  have e2:(s.ls.set j l).getD j []=l:=by rw [List.getD_eq_getElem?_getD,List.getElem?_set_self (by rw [h.len];exact hj)];rfl
  show IntsAt _ _ _ ((s.ls.set j l).getD j [])
  rw [e2]
  simp only [if_true]
  exact (hl.ch ((Ch.refl (fun b=>b=p) w').put (2+j) v) (fun b hb e=>by have e:b=p:=e;exact hb.elim (fun h1=>hp _ b (by omega) h1 e) (fun h1=>by omega))).mono (Col.new h.lt)
 ·have e2:(s.ls.set i l).getD j []=s.ls.getD j []:=by rw [List.getD_eq_getElem?_getD,List.getElem?_set_ne (Ne.symm e),List.getD_eq_getElem?_getD]
  show IntsAt _ _ _ ((s.ls.set i l).getD j [])
  rw [e2]
  simp only [e,if_false]
  exact ((h.ls j hj).ch hc2 (ap (2+j) (by omega) (by omega))).mono (Col.old h.lt)
theorem WheelAtQ.put {p mb:Nat} {sv:Nat→Value} {c:Nat→Nat} {s:Wheel} (h:WheelAtQ w F p mb sv c s) (d v:Int) (hv:0≤v∧v≤1152921504606846976):WheelAtQ (mapPut w mb d (.int .i64 v)) F p mb sv c ⟨s.now,mput s.dues d v,s.ls⟩:=by
 have hc:Ch (Col F c 1) w (mapPut w mb d (.int .i64 v)):=(Ch.refl _ w).mapPut (fun _=>h.fm) d _
 exact ⟨h.head.ch hc (Col.apart (by omega) _ h.fp),h.map.put d v,h.fp,h.fm,fun b hb=>by simpa using h.lt b hb,fun i hi=>(h.ls i hi).ch hc (Col.apart (by omega)),h.len,h.now,fun x hx=>(mem_mput hx).elim (fun e=>by subst e;exact hv) (h.ok x)⟩
theorem WheelAtQ.del {p mb:Nat} {sv:Nat→Value} {c:Nat→Nat} {s:Wheel} (h:WheelAtQ w F p mb sv c s) (d:Int):WheelAtQ (mapDel w mb d) F p mb sv c ⟨s.now,mdel s.dues d,s.ls⟩:=by
 have hc:Ch (Col F c 1) w (mapDel w mb d):=(Ch.refl _ w).mapDel (fun _=>h.fm) d
 exact ⟨h.head.ch hc (Col.apart (by omega) _ h.fp),h.map.del d,h.fp,h.fm,fun b hb=>by simpa using h.lt b hb,fun i hi=>(h.ls i hi).ch hc (Col.apart (by omega)),h.len,h.now,fun x hx=>h.ok x (mem_mdel hx)⟩
def listIx (now:Nat) (due:Int):Nat:=if due≤now then 168 else 8*levelF due.toNat now+digitF due.toNat (levelF due.toNat now)
theorem listIx_lt {now:Nat} {due:Int} (hn:now≤1152921504606846976) (hd:due≤1152921504606846976):listIx now due < 169:=by
 unfold listIx
 split
 ·omega
 ·have h1:=level_le (a:=due.toNat) (b:=now) (by omega) hn
  have h2:digitF due.toNat (levelF due.toNat now) < 8:=Nat.mod_lt _ (by omega)
  omega
theorem wlist_any (w:World) {p mb:Nat} {sv:Nat→Value} {c:Nat→Nat} {s:Wheel} (h:WheelAtQ w F p mb sv c s) (due:Int) (hd:due≤1152921504606846976):Calls prog 326 #[.pointer (some ⟨p,0,none⟩),.int .i64 due] w fun e w'=>e=.returned (.pointer (some ⟨p,2+listIx s.now due,none⟩))∧∃ n,w'=w.drewN n:=by
 have c0:w.cell? ⟨p,0,none⟩=some (.int .i64 s.now):=by rw [h.head.cell];rfl
 have hn:=h.now;clear h;unfold listIx;generalize s.now=now at *
 by_cases hq:due≤now
 ·rw [if_pos hq]
  go_enter func326,ntmps326
  go_wp2;go_returns
  exact ⟨rfl,0,rfl⟩
 ·rw [if_neg hq]
  obtain ⟨d,rfl⟩:∃ d:Nat,due=d:=⟨due.toNat,by omega⟩
  have A:=Hd (wlevel_any d now (by omega) hn (by omega) w)
  have hl:=level_le (a:=d) (b:=now) (by omega) hn
  simp only [Int.toNat_natCast]
  generalize levelF d now=l at *
  have B:=Hd (fun n=>wdigit_any d l (by omega) hl (w.drewN n))
  have hdg:digitF d l < 8:=Nat.mod_lt _ (by omega)
  generalize digitF d l=g at *
  go_enter func326,ntmps326
  go_wp2_with fail;refine A.out.mono ?_;rintro e w1 ⟨rfl,rfl⟩;go_wp2
  refine region_tailC (C:=fun w'=>∃ k,w'=(w).drewN k) 9 ?_ ?_ ?_ ?_;(kernel_rfl);(kernel_rfl);(first | exact cls0 _ | exact clsN _ _);simp only [List.take_succ_cons,List.take_zero,List.drop_succ_cons,List.drop_zero];(repeat (go_big_quiet_step ((go_at_call 281;exact quiet_left (B.out _)))));refine wpQuiet_nil ?_;rintro _ ⟨nq,rfl⟩
  go_wp2;go_returns
  refine ⟨?_,_,rfl⟩
  rw [show 2+(8*l+g)=2+l*8+g by omega]
  rfl
def putOne (s:Wheel) (d:Int):Wheel:=⟨s.now,s.dues,s.ls.set (listIx s.now ((mget s.dues d).getD 0)) (s.ls.getD (listIx s.now ((mget s.dues d).getD 0)) []++[d])⟩
def putAll (s:Wheel) (l:List Int):Wheel:=l.foldl putOne s
def wheelMax (s:Wheel):Nat:=(s.ls.map List.length).sum
theorem sum_set:∀ (l:List (List Int)) (i:Nat) (x:List Int),i < l.length→((l.set i x).map List.length).sum+(l.getD i []).length=(l.map List.length).sum+x.length
 | [],i,x,h=>by simp at h
 | y::t,0,x,h=>by simp;omega
 | y::t,i+1,x,h=>by
  have:=sum_set t i x (by simpa using h)
  simp only [List.set_cons_succ,List.map_cons,List.sum_cons,List.getD_cons_succ]
  omega
theorem len_le_sum:∀ (l:List (List Int)) (i:Nat),(l.getD i []).length≤(l.map List.length).sum
 | [],i=>by simp
 | y::t,0=>by simp
 | y::t,i+1=>by
  have:=len_le_sum t i
  simp only [List.map_cons,List.sum_cons,List.getD_cons_succ]
  omega
theorem due_ok {p mb:Nat} {sv:Nat→Value} {c:Nat→Nat} {s:Wheel} (h:WheelAtQ w F p mb sv c s) (d:Int):(mget s.dues d).getD 0≤1152921504606846976∧0≤(mget s.dues d).getD 0:=by
 cases hg:mget s.dues d with
 | none=>simp
 | some v=>have:=h.ok _ (mget_mem hg);exact ⟨this.2,this.1⟩
theorem putOne_max (s:Wheel) (d:Int) (hl:s.ls.length=169) (hi:listIx s.now ((mget s.dues d).getD 0) < 169):wheelMax (putOne s d)=wheelMax s+1:=by
 unfold wheelMax putOne
 have:=sum_set s.ls (listIx s.now ((mget s.dues d).getD 0)) (s.ls.getD (listIx s.now ((mget s.dues d).getD 0)) []++[d]) (by omega)
 simp only [List.length_append,List.length_cons,List.length_nil] at this ⊢
 omega
theorem wput_any (w:World) {F F2:Nat→Prop} {s:Wheel} (h:WheelAt w F p s) (v:Value) (l:List Int) (hv:IntsAt w F2 v l) (hF:∀ b,F2 b→¬ F b) (hmax:wheelMax s+l.length≤1099511627776):Calls prog 282 #[.pointer (some ⟨p,0,none⟩),v] w fun e w'=>e=.returned (.tuple #[])∧WheelAt w' (Plus w w' F) p (putAll s l)∧Ch F w w':=by
 obtain ⟨N,hN⟩:∃ N,N=l.length:=⟨_,rfl⟩
 have hV:(N=0∧∃ base cap,v=.slice base N cap)∨(0 < N∧∃ b cap,v=.slice (some ⟨b,0,none⟩) N cap∧N≤cap∧cap≤maxLen∧¬ F b∧b < w.heap.size∧∀ j,j < N→w.cell? ⟨b,j,none⟩=some (.int .i64 (l.getD j 0))):=by
  by_cases h0:N=0
  ·obtain ⟨base,cap,rfl⟩:=RowAt.form hv
   exact .inl ⟨h0,base,cap,by rw [hN]⟩
  ·obtain ⟨b,cap,rfl,h1,h2,h3,h4,h5,-⟩:=IntsAt.open hv (by omega)
   exact .inr ⟨by omega,b,cap,by rw [hN],by omega,h2,hF _ h3,h4,by rw [hN];exact h5⟩
 have hNb:N≤1099511627776:=by omega
 have HW:=Hd h;have hlt:=h.ltF;replace hlt:=Hd hlt
 have hform:∃ base cap,v=.slice base N cap:=by
  rcases hV with ⟨_,b,c,e⟩ | ⟨_,b,c,e,_⟩
  ·exact ⟨b,c,e⟩
  ·exact ⟨_,c,e⟩
 obtain ⟨base,cap,rfl⟩:=hform
 have hcells:Hid (∀ j,j < N→∃ b,base=some ⟨b,0,none⟩∧¬ F b∧b < w.heap.size∧w.cell? ⟨b,j,none⟩=some (.int .i64 (l.getD j 0))):=by
  refine Hd fun j hj=>?_
  rcases hV with ⟨h0,_⟩ | ⟨_,b,c,e,_,_,h1,h2,h3⟩
  ·omega
  ·cases e
   exact ⟨b,rfl,h1,h2,h3 j hj⟩
 replace hN:=Hd hN;clear hV h hv hF
 go_enter func282,ntmps282
 go_wp2
 go_loopw [9,5,6] (fun iv _ _ wr=>∃ k:Nat,iv=.int .i64 k∧k≤N∧Hid (WheelAt wr (Plus w wr F) p (putAll s (l.take k)))∧Hid (Ch F w wr)∧Hid (wheelMax (putAll s (l.take k))=wheelMax s+k)) (fun iv _ _ _=>N - (intOf iv).toNat)
 case atStart=>exact ⟨0,rfl,by omega,by rw [Plus.self];exact HW,Hd (Ch.refl _ _),Hd rfl⟩
 case round =>
  obtain ⟨k,rfl,hk,H,HC,HM⟩:=hrel
  by_cases hlt':k < N
  ·obtain ⟨b,rfl,hFb,hbs,hcell⟩:=hcells.out k hlt'
   have cb:wr.cell? ⟨b,k,none⟩=some (.int .i64 (l.getD k 0)):=keepch HC.out hcell hFb
   obtain ⟨d,hd⟩:∃ d,d=l.getD k 0:=⟨_,rfl⟩
   rw [← hd] at cb;replace hd:=Hd hd
   obtain ⟨st,hst⟩:∃ st,st=putAll s (l.take k):=⟨_,rfl⟩
   rw [← hst] at H HM;replace hst:=Hd hst;obtain ⟨mb,sv,c,hX⟩:=H.out
   have c1:wr.cell? ⟨p,1,none⟩=some (.map (some mb)):=by rw [hX.head.cell];rfl
   have hl:=IMapAt.look1 (P:=prog) hX.map underlying272 underlying3 (E:=2) (w:=wr) (by kernel_rfl) d
   have hok:=due_ok hX d
   have A:=Hd (wlist_any wr hX ((mget st.dues d).getD 0) hok.1)
   have hix:=listIx_lt hX.now hok.1
   obtain ⟨ix,hixe⟩:∃ ix,ix=listIx st.now ((mget st.dues d).getD 0):=⟨_,rfl⟩
   rw [← hixe] at A hix
   have hmx:=putOne_max st d hX.len (hixe ▸ hix)
   replace hmx:=Hd hmx;replace hixe:=Hd hixe
   have e2:∀ Q,Q=st.ls.getD ix []++[d]→putOne st d=⟨st.now,st.dues,st.ls.set ix Q⟩:=fun Q hQ=>by unfold putOne;rw [hQ,← hixe.out]
   replace e2:=Hd e2;clear hixe;generalize (mget st.dues d).getD 0=due at *
   have cs:wr.cell? ⟨p,2+ix,none⟩=some (sv ix):=by rw [hX.head.cell];exact wheelCells_get _ _ _ _ hix
   have hI:=hX.ls ix hix
   obtain ⟨bx,cx,hsv⟩:=RowAt.form hI
   rw [hsv] at cs hI
   obtain ⟨q,hq⟩:∃ q,q=st.ls.getD ix []:=⟨_,rfl⟩
   rw [← hq] at hI cs
   have hql:q.length≤1099511627776:=by
    have h1:=len_le_sum st.ls ix
    have h2:=HM.out;have h3:=hN.out;unfold wheelMax at h2 hmax;rw [← hq] at h1
    omega
   replace hq:=Hd hq
   have hI2:=fun n o=>IntsAt.ch hI ((((Ch.refl (fun _=>False) wr).drewN n).alloc o)) (fun _ _ h=>h)
   replace hI2:=Hd hI2;replace hX:=Hd hX;clear hok hcell hI
   obtain ⟨due',hdue⟩:∃ x,x=due:=⟨_,rfl⟩
   clear hdue due';go_wp2_with fail;refine A.out.mono ?_;rintro e w1 ⟨rfl,n,rfl⟩
   go_wp2_with (at_builtin;refine wpList_app1 (n:=d) rfl _ _ rfl (hI2.out _ _) (by rfl) (by rfl) ?_ hql ?_)
   ·exact cell_at1 _ _ rfl
   ·intro v' w2 h5 h6
    have hX2:=hX.out.ch (((Ch.refl (fun _=>False) wr).drewN n).alloc (.cells #[.int .i64 d] 3)) (fun _ _ h=>h)
    have hb2:=hX2.head.ch h6 (Col.apart (by omega) _ hX2.fp)
    have c2:w2.cell? ⟨p,2+ix,none⟩=some (.slice bx q.length cx):=by rw [hb2.cell,wheelCells_get _ _ _ _ hix,hsv,hq.out]
    have f2:w2.frozen? ⟨p,2+ix,none⟩=false:=hb2.frozen _
    obtain ⟨Q,hQ⟩:∃ Q,Q=q++[d]:=⟨_,rfl⟩
    rw [← hQ] at h5;replace hQ:=Hd hQ
    obtain ⟨bv,cv,rfl⟩:=RowAt.form h5
    have hY:=hX2.set hix h5 h6
    have hs2:((wr.drewN n).alloc (.cells #[.int .i64 d] 3)).heap.size=wr.heap.size+1:=by simp
    have hw2:=h6.size;have hcw:=HC.out.size
    have hCh:=HC.out.then ((((Ch.refl (Plus w wr F) wr).drewN n).alloc (.cells #[.int .i64 d] 3)).trans (h6.mono (fun _ _ h=>h.1))) (fun i hi e=>e.elim id (fun e=>by omega))
    replace hCh:=Hd hCh;replace hY:=Hd hY;clear h5 h6 hX2 hb2;go_wp2;go_roundw
    case rel =>
     have e1:putAll s (l.take (k+1))=putOne st d:=by
      have hg2:l[k]? = some (l.getD k 0):=by rw [List.getD_eq_getElem?_getD,List.getElem?_eq_getElem (by rw [← hN.out];exact hlt')];rfl
      rw [List.take_add_one,hg2];unfold putAll;rw [List.foldl_append]
      show putOne (putAll s (l.take k)) (l.getD k 0)=_
      rw [← hst.out,← hd.out]
     refine ⟨k+1,by go_num,hlt',?_,Hd (hCh.out.setCell (p:=⟨p,2+ix,none⟩) (fun h=>?_) _),?_⟩
     ·rw [e1,e2.out Q (by rw [hQ.out,hq.out])]
      refine Hd (hY.out.at.mono (fun b hb=>?_) (fun b hb=>?_))
      ·rcases hb with (hb | ⟨h1,h2⟩) | ⟨h1,h2⟩
       ·exact .inl hb
       ·exact .inr ⟨h1,by simp;omega⟩
       ·exact .inr ⟨by omega,by simp;omega⟩
      ·rcases hb with hb | ⟨h1,h2⟩
       ·have:=hlt.out b hb;simp;omega
       ·exact h2
     ·have hfp:=hX.out.fp.1
      exact hfp.elim id (fun e=>by have:=e.1;simp at h;omega)
     ·rw [e1,hmx.out,HM.out]
      exact Hd rfl
    case measure=>simp [intOf];omega
  ·have:k=N:=by omega
   subst this;go_wp2;go_end0
   have e1:l.take k=l:=by rw [hN.out];exact List.take_length
   rw [e1] at H
   exact ⟨rfl,H.out,HC.out⟩
def wheelAdd (s:Wheel) (d due:Int):Wheel × Int :=
 if rightF due then (if (mget s.dues d).isSome then (s,6) else (putOne ⟨s.now,mput s.dues d due,s.ls⟩ d,0)) else (s,2)
theorem zero2 (w:World):(zeroValue 2).run prog w=.ok (.int .i64 0) w:=by kernel_rfl
theorem rightF_iff {t:Int} (h:rightF t=true):0≤t∧t≤1152921504606846976:=by
 unfold rightF at h
 simpa using h
theorem ints_one (w:World) (d:Int):IntsAt (w.alloc (.cells #[.int .i64 d] 3)) (fun b=>b=w.heap.size) (.slice (some ⟨w.heap.size,0,none⟩) 1 1) [d] :=
 IntsAt.full (l:=[d]) (Blk.new w _ _) rfl rfl (by omega)
theorem wadd_any (w:World) {s:Wheel} (h:WheelAt w F p s) (d due:Int) (hmax:wheelMax s+1≤1099511627776):Calls prog 288 #[.pointer (some ⟨p,0,none⟩),.int .i64 d,.int .i64 due] w fun e w'=>e=.returned (.int .i64 (wheelAdd s d due).2)∧WheelAt w' (Plus w w' F) p (wheelAdd s d due).1∧Ch F w w':=by
 have HT:=Hd h;have A:=Hd (wright_any due w);obtain ⟨mb,sv,c,h⟩:=h
 have c1:w.cell? ⟨p,1,none⟩=some (.map (some mb)):=by rw [h.head.cell];rfl
 have hl:=IMapAt.look (P:=prog) h.map underlying272 underlying3 (zero2 w) d
 unfold wheelAdd
 cases hr:rightF due with
 | false =>
  rw [hr] at A;clear h hr;generalize (mget s.dues d).getD 0=v at *;generalize (mget s.dues d).isSome=b at *
  go_enter func288,ntmps288
  go_wp2_with fail;refine A.out.mono ?_;rintro e w1 ⟨rfl,rfl⟩;go_wp2;go_returns
  exact ⟨rfl,by rw [Plus.self];exact HT.out,Ch.refl _ _⟩
 | true =>
  rw [hr] at A
  cases hb:(mget s.dues d).isSome with
  | true =>
   rw [hb] at hl;clear h hr hb;generalize (mget s.dues d).getD 0=v at *
   go_enter func288,ntmps288
   go_wp2_with fail;refine A.out.mono ?_;rintro e w1 ⟨rfl,rfl⟩;go_wp2;go_returns
   exact ⟨rfl,by rw [Plus.self];exact HT.out,Ch.refl _ _⟩
  | false =>
   rw [hb] at hl
   have hput:=run_put (P:=prog) h.map underlying272 underlying3 d (.int .i64 due)
   have hX:=h.put d due (rightF_iff hr)
   have hlt:=h.lt
   have B:=(wput_any ((mapPut w mb d (.int .i64 due)).alloc (.cells #[.int .i64 d] 3)) (hX.ch ((Ch.refl (fun _=>False) _).alloc _) (fun _ _ h=>h)).at _ [d] (ints_one (mapPut w mb d (.int .i64 due)) d) (fun b hb hF=>by have:=hlt b hF;simp at hb;omega) hmax)
   rw [mapPut_size] at B;replace B:=Hd B;have hfm:=h.fm.1;replace hX:=Hd hX;replace hlt:=Hd hlt;clear h hr hb;generalize (mget s.dues d).getD 0=v at *
   go_enter func288,ntmps288
   go_wp2_with fail;refine A.out.mono ?_;rintro e w1 ⟨rfl,rfl⟩;go_wp2_with fail;refine B.out.mono ?_;rintro e w2 ⟨rfl,h1,h2⟩;replace h1:=Hd h1;replace h2:=Hd h2;go_wp2;go_returns;have hs:=h2.out.size
   simp only [World.size_alloc,mapPut_size] at hs
   refine ⟨rfl,WheelAt.mono (s:=putOne ⟨s.now,mput s.dues d due,s.ls⟩ d) h1.out (fun b hb=>hb.elim .inl (fun e=>.inr ⟨by have:=e.1;simp at this;omega,e.2⟩)) (fun b hb=>hb.elim (fun e=>by have:=hlt.out b e;omega) (fun e=>e.2)),(((Ch.refl F w).mapPut (fun _=>hfm) d _).alloc _).trans h2.out⟩
theorem wwhen_any (w:World) {s:Wheel} (h:WheelAt w F p s) (d:Int):Calls prog 364 #[.pointer (some ⟨p,0,none⟩),.int .i64 d] w fun e w'=>e=.returned (.tuple #[.int .i64 ((mget s.dues d).getD 0),.bool (mget s.dues d).isSome])∧w=w':=by
 obtain ⟨mb,sv,c,h⟩:=h
 have c1:w.cell? ⟨p,1,none⟩=some (.map (some mb)):=by rw [h.head.cell];rfl
 have hl:=IMapAt.look (P:=prog) h.map underlying272 underlying3 (zero2 w) d
 clear h;generalize (mget s.dues d).getD 0=v at *;generalize (mget s.dues d).isSome=b at *
 go_enter func364,ntmps364
 go_wp2;go_returns
 exact ⟨rfl,rfl⟩
theorem plus0_lt':∀ b,Plus w w' (fun _=>False) b→b < w'.heap.size:=fun b hb=>hb.elim (fun h=>h.elim) (fun h=>h.2)
def wheel0 (now:Nat):Wheel:=⟨now,[],List.replicate 169 []⟩
theorem zero276:zeroCells276=(Value.int .i64 0::Value.map none::(List.range 169).map (fun _=>Value.slice none 0 0)).toArray:=by kernel_rfl
theorem zero276_set (now mb:Nat):(zeroCells276.setIfInBounds 0 (.int .i64 now)).setIfInBounds 1 (.map (some mb))=wheelCells now mb (fun _=>.slice none 0 0):=by
 rw [zero276,List.setIfInBounds_toArray,List.setIfInBounds_toArray,List.set_cons_zero,List.set_cons_succ,List.set_cons_zero]
 rfl
theorem wheel_new (w:World) (now:Nat) (hn:now≤1152921504606846976):Calls prog 114 #[.int .i64 now] w fun e w'=>(∃ p,e=.returned (.tuple #[.pointer (some ⟨p,0,none⟩),.int .i64 0])∧WheelAt w' (Plus w w' (fun _=>False)) p (wheel0 now))∧Below w.heap.size w w':=by
 have hmm:=@run_makeMap prog
 have hr:rightF now=true:=by unfold rightF;simp;omega
 have A:=Hd (wright_any now w);rw [hr] at A;clear hr
 go_enter func114,ntmps114
 go_wp2_with fail;refine A.out.mono ?_;rintro e w1 ⟨rfl,rfl⟩;go_wp2;go_returns
 have e:=zero276_set now w.heap.size
 refine ⟨⟨w.heap.size+1,rfl,w.heap.size,fun _=>.slice none 0 0,fun b=>if b=w.heap.size then 1 else 0,?_⟩,?_⟩
 ·refine ⟨?_,MapAt.ch (MapAt.new w) ((Ch.refl (fun _=>False) _).alloc _) (fun h=>h),⟨.inr ⟨by omega,by simp⟩,by simp⟩,⟨.inr ⟨by omega,by simp;omega⟩,by simp⟩,plus0_lt',fun i hi=>?_,by simp [wheel0],hn,fun x hx=>by cases hx⟩
  ·show Blk _ _ (wheelCells now w.heap.size _) 276
   rw [← e]
   exact Blk.at _ _ (by simp)
  ·have e2:(wheel0 now).ls.getD i []=[]:=by
    show (List.replicate 169 ([]:List Int)).getD i []=[]
    rw [List.getD_eq_getElem?_getD,List.getElem?_replicate,if_pos hi]
    rfl
   rw [e2]
   exact IntsAt.nil _ _
 ·exact ((Below.refl _ _).alloc (Nat.le_refl _) _).alloc (by simp) _
end Go.Proofs.YtiocbpabbjgkhaaGreatDoor
