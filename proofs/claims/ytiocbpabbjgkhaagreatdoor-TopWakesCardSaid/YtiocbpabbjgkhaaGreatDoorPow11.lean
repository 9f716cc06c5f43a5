/- Part 11 of the proof: contracts and plain laws, each under the conditions that it names. -/
import Derived.Test.YtiocbpabbjgkhaaGreatDoorPow10
import Derived.Deep.RegionWith
set_option maxRecDepth 100000
set_option maxHeartbeats 20000000
set_option linter.unusedVariables false
set_option linter.unusedSimpArgs false
namespace Go.Proofs.YtiocbpabbjgkhaaGreatDoor
open Go.RowKit Go.Proofs.Tryz
variable {w w' : World} {F : Nat → Prop} {p : Nat}
theorem MultiQ.cells {S:Type} {R:World→(Nat→Prop)→Nat→S→Prop} {HT ET most:Nat} {lo:Int} {d:S} {p sp wb:Nat} {rv:Value} {ptrs c:Nat→Nat} {m:Multi S} (h:MultiQ R HT ET most lo d w F p sp wb rv ptrs c m):w.cell? ⟨p,0,none⟩=some (.pointer (some ⟨sp,0,none⟩))∧w.cell? ⟨p,1,none⟩=some rv∧w.cell? ⟨p,2,none⟩=some (.map (some wb)):=⟨h.head.cell 0,h.head.cell 1,h.head.cell 2⟩
theorem slice_base {g g' n n' c c':Nat} (h:Value.slice (some ⟨g,0,none⟩) n c=Value.slice (some ⟨g',0,none⟩) n' c'):g'=g:=by cases h;rfl
def timersArm (m:Timers) (cpu due:Int):Timers × Int × Int :=
 if mayF m.l.length cpu≠0 then (m,0,3) else
 if due < 0∨1152921504606846976 < due then (m,0,2) else
 if (slotTake 48 m.ids).2.2≠0 then (⟨(slotTake 48 m.ids).1,m.l,m.wh⟩,0,(slotTake 48 m.ids).2.2) else
 (⟨(slotTake 48 m.ids).1,m.l.set cpu.toNat (wheelAdd (m.l.getD cpu.toNat noWheel) (slotTake 48 m.ids).2.1 due).1,mput m.wh (slotTake 48 m.ids).2.1 cpu⟩,(slotTake 48 m.ids).2.1,(wheelAdd (m.l.getD cpu.toNat noWheel) (slotTake 48 m.ids).2.1 due).2)
theorem Plus.cover {w w1 w':World} (h:w.heap.size≤w1.heap.size):∀ b,Plus w1 w' F b→Plus w w' F b:=fun b hb=>hb.imp id (fun e=>⟨Nat.le_trans h e.1,e.2⟩)
theorem Plus.two {w w1 w2:World} (h1:w.heap.size≤w1.heap.size) (h2:w1.heap.size≤w2.heap.size):∀ b,Plus w1 w2 (Plus w w1 F) b→Plus w w2 F b:=fun b hb=>by rw [Plus.plus h1 h2] at hb;exact hb
theorem tarm_any (w:World) (hT:Tab w) {m:Timers} (h:TimersAt w F p m) (hf:fewT m) (cpu due:Int):Calls prog 221 #[.pointer (some ⟨p,0,none⟩),.int .i64 cpu,.int .i64 due] w fun e w'=>e=.returned (.tuple #[.int .i64 (timersArm m cpu due).2.1,.int .i64 (timersArm m cpu due).2.2])∧TimersAt w' (Plus w w' F) p (timersArm m cpu due).1∧Ch F w w':=by
 have hb0:Below w.heap.size w (w.alloc (.cells #[.int .i64 cpu] 3)):=(Below.refl _ _).alloc (Nat.le_refl _) _
 have hT1:Tab (w.alloc (.cells #[.int .i64 cpu] 3)):=fun i hi=>keepcell hb0 (hT i hi)
 have hltw:=h.ltF;have hltw0:=Hd hltw
 replace h:=h.below ownW hb0
 have HT:=Hd (h.mono ownW (G:=Plus w (w.alloc (.cells #[.int .i64 cpu] 3)) F) Plus.sub (Plus.lt hltw hb0.size))
 have hc0:Ch F w (w.alloc (.cells #[.int .i64 cpu] 3)):=Ch.of_below hb0
 have A:=Hd (tmay_one _ h cpu w.heap.size 1 (cell_at1 _ _ rfl))
 obtain ⟨sp,wb,rv,ptrs,c,h⟩:=h;obtain ⟨g,gc,rfl,hle,hg⟩:=h.open;obtain ⟨c0,c1,c2⟩:=h.cells;unfold timersArm
 by_cases hm:mayF m.l.length cpu=0
 ·rw [if_neg (by simp [hm])]
  rw [hm] at A
  by_cases hd:due < 0∨1152921504606846976 < due
  ·rw [if_pos hd]
   clear h hg hm hf hle c0 c1 c2
   rcases (by omega:due < 0∨(¬ due < 0∧1152921504606846976 < due)) with h1 | ⟨h1,h2⟩
   all_goals
    clear hd
    go_enter func221,ntmps221
    go_wp2_with fail;refine A.out.mono ?_;rintro e w1 ⟨rfl,rfl⟩;go_wp2;go_returns
    exact ⟨rfl,HT.out,hc0⟩
  ·rw [if_neg hd]
   obtain ⟨hd1,hd2⟩:0≤due∧due≤1152921504606846976:=by omega
   clear hd;have B:=Hd (slot_take _ h.ids hT1)
   have hids:=fun (w2:World) (hs:SlotAt w2 _ sp 48 (slotTake 48 m.ids).1) (hc:Ch (Col F c 0) (w.alloc (.cells #[.int .i64 cpu] 3)) w2)=>h.turnIds ownW hs hc
   replace hids:=Hd hids
   obtain ⟨i,rfl,hi⟩:=may_yes hm
   simp only [Int.toNat_natCast]
   obtain ⟨T,hT'⟩:∃ T,T=slotTake 48 m.ids:=⟨_,rfl⟩
   rw [← hT'] at B hids ⊢;obtain ⟨s1,id,why⟩:=T;dsimp only at B hids ⊢;have hlt0:=h.lt;clear h hm hT' hltw
   obtain ⟨n,hn⟩:∃ n,n=m.l.length:=⟨_,rfl⟩
   rw [← hn] at c1 hi hle hg
   have hmax:=hf i (by omega)
   have hi2:=hi;clear hf hg
   by_cases hw:why=0
   ·subst hw
    rw [if_neg (by simp)];replace hmax:=Hd hmax
    go_enter func221,ntmps221
    go_wp2_with fail;refine A.out.mono ?_;rintro e w1 ⟨rfl,rfl⟩;go_wp2_with fail;refine B.out.mono ?_;rintro e w2 ⟨rfl,h1,h2⟩
    have X2:=hids.out w2 h1 h2
    have hput:=run_put (P:=prog) X2.map underlying95 underlying3 id (.int .i64 i)
    have X3:=X2.put ownW id i ⟨by omega,by show (i:Int) < 0+m.l.length;omega⟩
    have D:=Hd (wadd_any _ (X3.ls i (by show i < m.l.length;omega)) id due (by have:=hmax.out;show wheelMax (m.l.getD i noWheel)+1≤_;omega))
    obtain ⟨d0,d1,d2⟩:=X2.cells;obtain ⟨g2,gc2,hrv,-,hg2⟩:=X2.open
    cases hrv
    have dg:=hg2 i (by show i < m.l.length;omega)
    clear hg2;rw [← hn] at d1;replace X2:=Hd X2;replace X3:=Hd X3;replace h2:=Hd h2;clear h1 c0 c1 c2;go_wp2_with fail;refine D.out.mono ?_;rintro e w4 ⟨rfl,h5,h6⟩;replace h5:=Hd h5;replace h6:=Hd h6;go_wp2;go_returns
    have X4:=X3.out.turn ownW (i:=i) (by show i < m.l.length;omega) h5.out h6.out
    have hs0:=hc0.size;have hs2:=h2.out.size;have hs6:=h6.out.size
    simp only [mapPut_size] at hs6
    have hcw:=(hc0.trans (h2.out.mono (fun _ _ h=>h.1))).size
    refine ⟨rfl,X4.at.mono ownW (fun b hb=>?_) (fun b hb=>?_),?_⟩
    ·rw [Plus.of_size (show (mapPut w2 wb id (.int .i64 i)).heap.size=w2.heap.size by simp)] at hb
     exact Plus.cover hs0 b (Plus.two hs2 hs6 b hb)
    ·exact hb.elim (fun e=>by have:=hltw0.out b e;omega) (fun e=>e.2)
    ·have h3:Ch F w w2:=hc0.then h2.out (fun _ _ h=>h.1)
     refine (h3.mapPut (fun hb=>?_) id (.int .i64 i)).then h6.out (fun b hb e=>?_)
     ·have:=X2.out.fm.1
      exact this.elim (fun e=>e) (fun e=>by have:=e.1;omega)
     ·have:=e.1
      exact this.elim (fun e=>e) (fun e=>by have:=e.1;omega)
   ·rw [if_pos hw]
    have hw':(why != 0)=true:=by simpa using hw
    clear hw
    go_enter func221,ntmps221
    go_wp2_with fail;refine A.out.mono ?_;rintro e w1 ⟨rfl,rfl⟩;go_wp2_with fail;refine B.out.mono ?_;rintro e w2 ⟨rfl,h1,h2⟩
    have X2:=hids.out w2 h1 h2
    replace X2:=Hd X2;replace h2:=Hd h2;clear h1;go_wp2;go_returns
    exact ⟨rfl,X2.out.at.mono ownW (Plus.cover hc0.size) (fun b hb=>hb.elim (fun e=>by have:=hltw0.out b e;have:=h2.out.size;have:=hc0.size;omega) (fun e=>e.2)),hc0.then h2.out (fun _ _ h=>h.1)⟩
 ·have e:=may_no hm
  rw [if_pos hm];rw [e] at A;clear h hg hm e hf hle c0 c1 c2
  go_enter func221,ntmps221
  go_wp2_with fail;refine A.out.mono ?_;rintro e w1 ⟨rfl,rfl⟩;go_wp2;go_returns
  exact ⟨rfl,HT.out,hc0⟩
def timersCancel (m:Timers) (d:Int):Timers × Int :=
 match mget m.wh d with
 | none=>(m,4)
 | some v=>(⟨(slotGive 48 m.ids d).1,m.l.set v.toNat (wheelDrop (m.l.getD v.toNat noWheel) d).1,mdel m.wh d⟩,(wheelDrop (m.l.getD v.toNat noWheel) d).2)
theorem tcancel_any (w:World) {m:Timers} (h:TimersAt w F p m) (d:Int):Calls prog 225 #[.pointer (some ⟨p,0,none⟩),.int .i64 d] w fun e w'=>e=.returned (.int .i64 (timersCancel m d).2)∧TimersAt w' (Plus w w' F) p (timersCancel m d).1∧Ch F w w':=by
 have HT:=Hd h;have A:=Hd (twhere_any w h d);obtain ⟨sp,wb,rv,ptrs,c,h⟩:=h;obtain ⟨g,gc,rfl,hle,hg⟩:=h.open;obtain ⟨c0,c1,c2⟩:=h.cells;unfold timersCancel
 cases hw:mget m.wh d with
 | none =>
  rw [hw] at A;clear h hg hw hle c0 c1 c2
  go_enter func225,ntmps225
  go_wp2_with fail;refine A.out.mono ?_;rintro e w1 ⟨rfl,rfl⟩;go_wp2;go_returns
  exact ⟨rfl,by rw [Plus.self];exact HT.out,Ch.refl _ _⟩
 | some v =>
  rw [hw] at A
  have hok:=h.ok _ (mget_mem hw)
  dsimp only at hok
  obtain ⟨i,rfl⟩:∃ i:Nat,v=i:=⟨v.toNat,by omega⟩
  have hi:i < m.l.length:=by omega
  simp only [Int.toNat_natCast]
  have hdel:=fun ty=>run_del (P:=prog) h.map underlying95 underlying3 d ty 3
  have X1:=h.del ownW d
  have B:=Hd (slot_give _ X1.ids d)
  have hids:=fun (w2:World) (hs:SlotAt w2 _ sp 48 (slotGive 48 m.ids d).1) (hc:Ch (Col F c 0) (mapDel w wb d) w2)=>X1.turnIds ownW hs hc
  replace hids:=Hd hids;have hX1:=Hd X1;have hfm:=h.fm.1;have hlt0:=Hd h.lt
  obtain ⟨n,hn⟩:∃ n,n=m.l.length:=⟨_,rfl⟩
  rw [← hn] at c1 hle
  have hi2:i < n:=by omega
  replace hn:=Hd hn;replace hi:=Hd hi;clear h hg X1 hw hok;generalize slotGive 48 m.ids d=u at *;obtain ⟨s1,why⟩:=u
  go_enter func225,ntmps225
  go_wp2_with fail;refine A.out.mono ?_;rintro e w1 ⟨rfl,rfl⟩;go_wp2_with fail;refine B.out.mono ?_;rintro e w2 ⟨rfl,h1,h2⟩
  have X2:=hids.out w2 h1 h2
  have D:=Hd (wdrop_any _ (X2.ls i hi.out) d)
  obtain ⟨d0,d1,d2⟩:=X2.cells;obtain ⟨g2,gc2,hrv,-,hg2⟩:=X2.open
  have dg:=hg2 i hi.out
  rw [slice_base hrv] at dg;rw [← hn.out] at d1;clear hrv;replace X2:=Hd X2;replace h2:=Hd h2;clear h1 c0 c1 c2 hg2;go_wp2_with fail;refine D.out.mono ?_;rintro e w4 ⟨rfl,h5,h6⟩;replace h5:=Hd h5;replace h6:=Hd h6;go_wp2;go_returns
  have X4:=X2.out.turn ownW (i:=i) hi.out h5.out h6.out
  have hs2:=h2.out.size;have hs6:=h6.out.size
  simp only [mapDel_size] at hs2
  refine ⟨rfl,X4.at.mono ownW (fun b hb=>?_) (fun b hb=>?_),?_⟩
  ·rw [Plus.of_size (show (mapDel w wb d).heap.size=w.heap.size by simp)] at hb
   exact Plus.two hs2 hs6 b hb
  ·exact hb.elim (fun e=>by have:=hlt0.out b e;omega) (fun e=>e.2)
  ·have h3:Ch F w w2:=((Ch.refl F w).mapDel (fun _=>hfm) d).then h2.out (fun _ _ h=>h.1)
   refine h3.then h6.out (fun b hb e=>?_)
   have:=e.1
   exact this.elim (fun e=>e) (fun e=>by have:=e.1;simp at this;omega)
def goTo (m:Timers) (t:Int) (k:Nat):Timers:=⟨m.ids,(m.l.take k).map (fun s=>(wheelGo s t).1)++m.l.drop k,m.wh⟩
def goWhy (m:Timers) (t:Int) (k:Nat):Int:=if k=0 then 0 else (wheelGo (m.l.getD (k - 1) noWheel) t).2
theorem goTo_len (m:Timers) (t:Int) (k:Nat):(goTo m t k).l.length=m.l.length:=by simp [goTo];omega
theorem goTo_get (m:Timers) (t:Int) (k:Nat) (hk:k < m.l.length):(goTo m t k).l.getD k noWheel=m.l.getD k noWheel:=by
 unfold goTo
 have e:(List.map (fun s=>(wheelGo s t).1) (m.l.take k)).length=k:=by simp;omega
 rw [List.getD_eq_getElem?_getD,List.getElem?_append_right (by omega),e,Nat.sub_self,List.getElem?_drop,Nat.add_zero,List.getD_eq_getElem?_getD]
theorem goTo_step (m:Timers) (t:Int) (k:Nat) (hk:k < m.l.length):(⟨(goTo m t k).ids,(goTo m t k).l.set k (wheelGo (m.l.getD k noWheel) t).1,(goTo m t k).wh⟩:Timers)=goTo m t (k+1):=by
 unfold goTo
 congr 1
 have e:(List.map (fun s=>(wheelGo s t).1) (m.l.take k)).length=k:=by simp;omega
 have hg:m.l[k]? = some (m.l.getD k noWheel):=getD_some hk
 rw [List.set_append_right _ _ (by omega),e,Nat.sub_self,List.take_add_one,hg]
 have hd:m.l.drop k=m.l.getD k noWheel::m.l.drop (k+1):=by
  rw [List.drop_eq_getElem_cons hk]
  congr 1
  rw [List.getD_eq_getElem?_getD,List.getElem?_eq_getElem hk]
  rfl
 rw [hd,List.set_cons_zero]
 simp
theorem goTo_zero (m:Timers) (t:Int):goTo m t 0=m:=by simp [goTo]
def timersGo (m:Timers) (t:Int):Timers × Int:=(goTo m t m.l.length,goWhy m t m.l.length)
theorem tgo_any (w:World) {m:Timers} (h:TimersAt w F p m) (hf:fewT m) (t:Int):Calls prog 128 #[.pointer (some ⟨p,0,none⟩),.int .i64 t] w fun e w'=>e=.returned (.int .i64 (timersGo m t).2)∧TimersAt w' (Plus w w' F) p (timersGo m t).1∧Ch F w w':=by
 have HT:=Hd h;have A:=Hd (tmay_zero w p);have hlt0:=Hd h.ltF;obtain ⟨sp,wb,rv,ptrs,c,h⟩:=h;obtain ⟨g,gc,rfl,hle,-⟩:=h.open;obtain ⟨c0,c1,c2⟩:=h.cells;unfold timersGo
 obtain ⟨n,hn⟩:∃ n,n=m.l.length:=⟨_,rfl⟩
 rw [← hn] at c1 hle ⊢
 have hn65:n≤65:=by have:=h.n64;omega
 replace hn:=Hd hn;replace hf:=Hd hf
 have HQ:Hid (∃ c,TimersAtQ w F p sp wb (.slice (some ⟨g,0,none⟩) n gc) ptrs c m):=Hd ⟨c,by rw [hn.out];exact h⟩
 clear h c0 c2
 go_enter func128,ntmps128
 go_wp2_with fail;refine A.out.mono ?_;rintro e w1 ⟨rfl,rfl⟩;go_wp2
 go_loopw [19,6,8] (fun iv yv _ wr=>∃ k:Nat,iv=.int .i64 k∧k≤n∧yv=.int .i64 (goWhy m t k)∧Hid (∃ c,TimersAtQ wr (Plus w wr F) p sp wb (.slice (some ⟨g,0,none⟩) n gc) ptrs c (goTo m t k))∧Hid (Ch F w wr)) (fun iv _ _ _=>n - (intOf iv).toNat)
 case atStart=>exact ⟨0,rfl,by omega,rfl,Hd (by rw [goTo_zero,Plus.self];exact HQ.out),Hd (Ch.refl _ _)⟩
 case round =>
  obtain ⟨k,rfl,hk,rfl,H,HC⟩:=hrel
  by_cases hlt:k < n
  ·obtain ⟨c,X⟩:=H.out
   have hkl:k < (goTo m t k).l.length:=by rw [goTo_len,← hn.out];exact hlt
   have hkm:k < m.l.length:=by rw [← hn.out];exact hlt
   have B:=wgo_any _ (X.ls k hkl) t (by rw [goTo_get m t k hkm];have:=hf.out k hkm;omega)
   rw [goTo_get m t k hkm] at B;obtain ⟨g2,gc2,hrv,-,hg2⟩:=X.open
   have hg3:=hg2 k hkl
   rw [slice_base hrv] at hg3;clear hrv;replace B:=Hd B
   have hst:=goTo_step m t k hkm
   have hwy:goWhy m t (k+1)=(wheelGo (m.l.getD k noWheel) t).2:=by unfold goWhy;rw [if_neg (by omega)];rfl
   have X':=Hd X;clear X hg2;generalize hu:wheelGo (m.l.getD k noWheel) t=u at *;clear hu;replace hst:=Hd hst;replace hwy:=Hd hwy
   have hnk:(goTo m t k).l.length=n:=by rw [goTo_len,← hn.out]
   go_wp2_with fail;refine B.out.mono ?_;rintro e w2 ⟨rfl,h5,h6⟩;replace h5:=Hd h5;replace h6:=Hd h6;go_wp2;go_roundw
   case rel =>
    have X4:=X'.out.turn ownW (i:=k) hkl h5.out h6.out
    rw [hst.out,Plus.plus HC.out.size h6.out.size] at X4
    exact ⟨k+1,by go_num,hlt,by rw [hwy.out],Hd ⟨_,X4⟩,Hd (HC.out.then h6.out (fun b hb e=>e.1.elim (fun e=>e) (fun e=>by have:=e.1;omega)))⟩
   case measure=>simp [intOf];omega
  ·have:k=n:=by omega
   subst this;go_wp2;go_returns;obtain ⟨c,X⟩:=H.out
   exact ⟨rfl,X.at,HC.out⟩
section
open Go.Proofs.YtiocbpabbjgkhaaGreatDoor.NumD
def timersFire (m:Timers) (cpu:Int):Timers × Int × Int :=
 if mayF m.l.length cpu≠0 then (m,0,3) else
 if timersDue m cpu=[] then (m,0,12) else
 ((timersCancel m ((timersDue m cpu).headD 0)).1,(timersDue m cpu).headD 0,(timersCancel m ((timersDue m cpu).headD 0)).2)
theorem tfire_any (w:World) {m:Timers} (h:TimersAt w F p m) (hf:fewT m) (cpu:Int):Calls prog 272 #[.pointer (some ⟨p,0,none⟩),.int .i64 cpu] w fun e w'=>e=.returned (.tuple #[.int .i64 (timersFire m cpu).2.1,.int .i64 (timersFire m cpu).2.2])∧TimersAt w' (Plus w w' F) p (timersFire m cpu).1∧Ch F w w':=by
 have hb0:Below w.heap.size w (w.alloc (.cells #[.int .i64 cpu] 3)):=(Below.refl _ _).alloc (Nat.le_refl _) _
 have hltw:=h.ltF;have HW:=Hd h
 replace h:=h.below ownW hb0
 have HT:=Hd (h.mono ownW (G:=Plus w (w.alloc (.cells #[.int .i64 cpu] 3)) F) Plus.sub (Plus.lt hltw hb0.size))
 have hc0:Ch F w (w.alloc (.cells #[.int .i64 cpu] 3)):=Ch.of_below hb0
 have A:=Hd (tmay_one _ h cpu w.heap.size 1 (cell_at1 _ _ rfl))
 obtain ⟨sp,wb,rv,ptrs,c,h⟩:=h;obtain ⟨g,gc,rfl,hle,hg⟩:=h.open;obtain ⟨c0,c1,c2⟩:=h.cells;unfold timersFire timersDue
 by_cases hm:mayF m.l.length cpu=0
 ·obtain ⟨i,rfl,hi⟩:=may_yes hm
  rw [if_neg (by simp [hm])]
  simp only [hm,ne_eq,not_true,if_false,Int.toNat_natCast]
  have B:=Hd (wdue_any _ (h.ls i hi) (hf.ready hi))
  have ci:=hg i hi
  rw [hm] at A
  obtain ⟨n,hn⟩:∃ n,n=m.l.length:=⟨_,rfl⟩
  rw [← hn] at c1 hi hle;clear h hg hm hn hf;generalize wheelDue (m.l.getD i noWheel)=L at *;replace hb0:=Hd hb0
  by_cases hL:L=[]
  ·subst hL
   rw [if_pos rfl]
   go_enter func272,ntmps272
   go_wp2_with fail;refine A.out.mono ?_;rintro e w1 ⟨rfl,rfl⟩;go_wp2_with fail;refine B.out.mono ?_;rintro e w1 ⟨⟨v,rfl,hv⟩,hb⟩
   obtain ⟨b,cap,rfl⟩:=RowAt.form hv
   replace hb:=Hd (hb0.out.trans (hb.mono hb0.out.size))
   clear hv;go_wp2;go_returns
   exact ⟨rfl,(HW.out.below ownW hb.out).mono ownW Plus.sub (Plus.lt hltw hb.out.size),Ch.of_below hb.out⟩
  ·rw [if_neg hL]
   have hpos:0 < L.length:=List.length_pos_iff.2 hL
   obtain ⟨x,hx⟩:∃ x,x=L.headD 0:=⟨_,rfl⟩
   have hd:L.getD 0 0=x:=by rw [hx];cases L <;> rfl
   rw [← hx]
   obtain ⟨u,hu⟩:∃ u,u=timersCancel m x:=⟨_,rfl⟩
   rw [← hu]
   have hz:((L.length:Int) == 0)=false:=by simp;exact hL
   replace hd:=Hd hd;replace hu:=Hd hu;clear hL hx
   go_enter func272,ntmps272
   go_wp2_with fail;refine A.out.mono ?_;rintro e w1 ⟨rfl,rfl⟩;go_wp2_with fail;refine B.out.mono ?_;rintro e w1 ⟨⟨v,rfl,hv⟩,hb⟩
   obtain ⟨b,cap,rfl,-,-,-,-,hcell,-⟩:=hv.open hpos
   have h0:=hcell 0 hpos
   rw [hd.out] at h0
   have hbw:=hb0.out.trans (hb.mono hb0.out.size)
   have hbn:¬ F b:=fun e=>by have:=hltw b e;have:=hv.open hpos;obtain ⟨b',cap',e2,-,-,e3,-⟩:=this;cases e2;unfold New at e3;simp at e3;omega
   have D:=Hd (tcancel_any w1.drew ((HW.out.below ownW hbw).below ownW (Below.refl _ w1).drew) x)
   rw [← hu.out] at D;replace hbw:=Hd hbw;have hbn':=Hd hbn
   have hk0:Hid (∀ w2,Ch F w1.drew w2→w2.cell? ⟨b,0,none⟩=some (.int .i64 x)):=Hd (fun w2 hc=>keepch hc (by exact h0) hbn)
   clear hcell hb hv c0 c1 c2 ci hbn;go_wp2_with fail
   go_region_with (go_at_call 225;refine D.out.mono ?_;rintro e w2 ⟨rfl,h5,h6⟩;have h7:=hk0.out w2 h6)
   all_goals
    replace h5:=Hd h5;replace h6:=Hd h6;go_wp2;go_returns
    have hc1:Ch F w w1:=Ch.of_below hbw.out
    have hs:=h6.out.size;have hs1:=hbw.out.size
    refine ⟨rfl,h5.out.mono ownW (fun b hb=>hb.imp id (fun e=>⟨Nat.le_trans hs1 e.1,e.2⟩)) (fun b hb=>hb.elim (fun e=>by have:=hltw b e;simp at hs;omega) (fun e=>e.2)),hc1.drew.trans h6.out⟩
 ·have e:=may_no hm
  rw [if_pos hm];rw [e] at A;clear h hg hm e hf hle c0 c1 c2
  go_enter func272,ntmps272
  go_wp2_with fail;refine A.out.mono ?_;rintro e w1 ⟨rfl,rfl⟩;go_wp2;go_returns
  exact ⟨rfl,HT.out,hc0⟩
def timersNext (m:Timers) (cpu:Int):Int × Int:=if mayF m.l.length cpu≠0 then (0,3) else wheelNext (m.l.getD cpu.toNat noWheel)
def nextOk (m:Timers):Prop:=∀ i,i < m.l.length→(m.l.getD i noWheel).dues≠[]→wheelFirst (m.l.getD i noWheel)≠[]
theorem first_few {m:Timers} (h:fewT m) {i:Nat} (hi:i < m.l.length):(wheelFirst (m.l.getD i noWheel)).length≤1099511627776:=by
 unfold wheelFirst
 split
 ·exact h.ready hi
 ·have h1:=h i hi
  unfold wheelMax at h1
  have h2:∀ ls:List (List Int),(firstL ls).length≤(ls.map List.length).sum:=by
   intro ls
   induction ls with
   | nil=>simp [firstL]
   | cons l t ih =>
    simp only [firstL,List.map_cons,List.sum_cons]
    split <;> omega
  have h3:=h2 ((m.l.getD i noWheel).ls.take 168)
  have h4:(((m.l.getD i noWheel).ls.take 168).map List.length).sum≤((m.l.getD i noWheel).ls.map List.length).sum:=by
   generalize (m.l.getD i noWheel).ls=L
   have:=List.take_append_drop 168 L
   have e:(L.map List.length).sum=((L.take 168).map List.length).sum+((L.drop 168).map List.length).sum:=by
    rw [← List.sum_append,← List.map_append,this]
   omega
  omega
theorem tnext_any (w:World) {m:Timers} (h:TimersAt w F p m) (hf:fewT m) (hx:nextOk m) (cpu:Int):Calls prog 197 #[.pointer (some ⟨p,0,none⟩),.int .i64 cpu] w fun e w'=>e=.returned (.tuple #[.int .i64 (timersNext m cpu).1,.int .i64 (timersNext m cpu).2])∧Below w.heap.size w w':=by
 have hb0:Below w.heap.size w (w.alloc (.cells #[.int .i64 cpu] 3)):=(Below.refl _ _).alloc (Nat.le_refl _) _
 replace h:=h.below ownW hb0
 have A:=Hd (tmay_one _ h cpu w.heap.size 1 (cell_at1 _ _ rfl))
 obtain ⟨sp,wb,rv,ptrs,c,h⟩:=h;obtain ⟨g,gc,rfl,hle,hg⟩:=h.open
 have c1:(w.alloc (.cells #[.int .i64 cpu] 3)).cell? ⟨p,1,none⟩=some (.slice (some ⟨g,0,none⟩) m.l.length gc):=h.head.cell 1
 unfold timersNext
 by_cases hm:mayF m.l.length cpu=0
 ·obtain ⟨i,rfl,hi⟩:=may_yes hm
  have B:=Hd (wnext_any _ (h.ls i hi) (hx i hi) (first_few hf hi))
  have ci:=hg i hi
  rw [hm] at A
  simp only [hm,Int.toNat_natCast,ne_eq,not_true,if_false]
  clear h hg hm hf hx;generalize wheelNext (m.l.getD i noWheel)=L at *;generalize m.l.length=n at *;replace hb0:=Hd hb0
  go_enter func197,ntmps197
  go_wp2_with fail;refine A.out.mono ?_;rintro e w1 ⟨rfl,rfl⟩;go_wp2_with fail;refine B.out.mono ?_;rintro e w1 ⟨rfl,hb⟩
  replace hb:=Hd (hb0.out.trans (hb.mono hb0.out.size))
  go_wp2;go_returns
  exact ⟨rfl,hb.out⟩
 ·have e:=may_no hm
  rw [e] at A;rw [if_pos hm];clear h hg hm e hf hx;replace hb0:=Hd hb0
  go_enter func197,ntmps197
  go_wp2_with fail;refine A.out.mono ?_;rintro e w1 ⟨rfl,rfl⟩;go_wp2;go_returns
  exact ⟨rfl,hb0.out⟩
def timersList (m:Timers) (cpu:Int):List Int:=if mayF m.l.length cpu≠0 then [] else wheelList (m.l.getD cpu.toNat noWheel)
def keysT (m:Timers):Prop:=∀ i,i < m.l.length→(∀ x∈(m.l.getD i noWheel).dues,In64 x.1)∧(m.l.getD i noWheel).dues.length≤1000000
theorem tlistof_any (w:World) {m:Timers} (h:TimersAt w F p m) (hk:keysT m) (cpu:Int):Calls prog 349 #[.pointer (some ⟨p,0,none⟩),.int .i64 cpu] w fun e w'=>(∃ v,e=.returned v∧IntsAt w' (New w) v (timersList m cpu))∧Below w.heap.size w w':=by
 have hb0:Below w.heap.size w (w.alloc (.cells #[.int .i64 cpu] 3)):=(Below.refl _ _).alloc (Nat.le_refl _) _
 replace h:=h.below ownW hb0
 have A:=Hd (tmay_one _ h cpu w.heap.size 1 (cell_at1 _ _ rfl))
 obtain ⟨sp,wb,rv,ptrs,c,h⟩:=h;obtain ⟨g,gc,rfl,hle,hg⟩:=h.open
 have c1:(w.alloc (.cells #[.int .i64 cpu] 3)).cell? ⟨p,1,none⟩=some (.slice (some ⟨g,0,none⟩) m.l.length gc):=h.head.cell 1
 unfold timersList
 by_cases hm:mayF m.l.length cpu=0
 ·obtain ⟨i,rfl,hi⟩:=may_yes hm
  have B:=Hd (wlistall_any _ (h.ls i hi) (hk i hi).1 (hk i hi).2)
  have ci:=hg i hi
  rw [hm] at A
  simp only [hm,Int.toNat_natCast,ne_eq,not_true,if_false]
  clear h hg hm hk;generalize wheelList (m.l.getD i noWheel)=L at *;generalize m.l.length=n at *;replace hb0:=Hd hb0
  go_enter func349,ntmps349
  go_wp2_with fail;refine A.out.mono ?_;rintro e w1 ⟨rfl,rfl⟩;go_wp2_with fail;refine B.out.mono ?_;rintro e w1 ⟨⟨v,rfl,hv⟩,hb⟩
  obtain ⟨b,cap,rfl⟩:=RowAt.form hv
  replace hv:=Hd hv
  replace hb:=Hd (hb0.out.trans (hb.mono hb0.out.size))
  go_wp2;go_returns
  exact ⟨⟨_,rfl,hv.out.mono (fun b hb=>by unfold New at *;simp at hb;omega)⟩,hb.out⟩
 ·have e:=may_no hm
  rw [e] at A;rw [if_pos hm];clear h hg hm e hk;replace hb0:=Hd hb0
  go_enter func349,ntmps349
  go_wp2_with fail;refine A.out.mono ?_;rintro e w1 ⟨rfl,rfl⟩;go_wp2;go_returns
  exact ⟨⟨_,rfl,IntsAt.nil _ _⟩,hb0.out⟩
end
def timersMoveTo (m:Timers) (a b:Nat) (id due:Int):Timers × Int × Int :=
 (⟨m.ids,(m.l.set a (wheelDrop (m.l.getD a noWheel) id).1).set b (wheelAdd (m.l.getD b noWheel) id due).1,mput m.wh id b⟩,id,(wheelAdd (m.l.getD b noWheel) id due).2)
def timersMove (m:Timers) (a b:Int):Timers × Int × Int :=
 if may2 m.l.length a b≠0 then (m,0,may2 m.l.length a b) else if a=b then (m,0,2) else if timersList m a=[] then (m,0,12) else
 timersMoveTo m a.toNat b.toNat ((timersList m a).headD 0) (timersWhen m ((timersList m a).headD 0)).1
theorem may2_yes {n:Nat} {a b:Int} (h:may2 n a b=0):(∃ i:Nat,a=i∧i < n)∧∃ j:Nat,b=j∧j < n:=by
 unfold may2 at h
 by_cases ha:mayF n a=0
 ·rw [if_neg (by simp [ha])] at h
  exact ⟨may_yes ha,may_yes h⟩
 ·rw [if_pos ha] at h
  exact absurd h ha
theorem tmove_any (w:World) {m:Timers} (h:TimersAt w F p m) (hf:fewT m) (hk:keysT m) (a b:Int):Calls prog 316 #[.pointer (some ⟨p,0,none⟩),.int .i64 a,.int .i64 b] w fun e w'=>e=.returned (.tuple #[.int .i64 (timersMove m a b).2.1,.int .i64 (timersMove m a b).2.2])∧TimersAt w' (Plus w w' F) p (timersMove m a b).1∧Ch F w w':=by
 have hb0:Below w.heap.size w (w.alloc (.cells #[.int .i64 a,.int .i64 b] 3)):=(Below.refl _ _).alloc (Nat.le_refl _) _
 have hltw:=Hd h.ltF;have HW:=Hd h
 have hfin:Hid (∀ w',Below w.heap.size w w'→TimersAt w' (Plus w w' F) p m∧Ch F w w'):=Hd (fun w' hb=>⟨(HW.out.below ownW hb).mono ownW Plus.sub (Plus.lt hltw.out hb.size),Ch.of_below hb⟩)
 replace h:=h.below ownW hb0
 have A:=Hd (tmay_two _ h a b w.heap.size 2 ((Blk.new w #[.int .i64 a,.int .i64 b] 3).cell 0) ((Blk.new w #[.int .i64 a,.int .i64 b] 3).cell 1))
 have B:=Hd (tlistof_any _ h hk a);unfold timersMove;generalize hmy:may2 m.l.length a b=my at *;replace hb0:=Hd hb0
 by_cases hm:my=0
 ·subst hm
  rw [if_neg (by simp)]
  obtain ⟨⟨i,rfl,hi⟩,⟨j,rfl,hj⟩⟩:=may2_yes hmy
  by_cases hab:(i:Int)=(j:Int)
  ·rw [if_pos hab]
   have hab':((i:Int) == (j:Int))=true:=by simpa using hab
   clear h hab hmy;generalize timersList m (i:Int)=L at *
   go_enter func316,ntmps316
   go_wp2_with fail;refine A.out.mono ?_;rintro e w1 ⟨rfl,rfl⟩;go_wp2_with fail;refine B.out.mono ?_;rintro e w1 ⟨⟨v,rfl,hv⟩,hb⟩
   obtain ⟨b1,cap,rfl⟩:=RowAt.form hv
   replace hb:=Hd (hb0.out.trans (hb.mono hb0.out.size))
   clear hv;go_wp2;go_returns
   exact ⟨rfl,hfin.out _ hb.out⟩
  ·rw [if_neg hab]
   have hab':((i:Int) == (j:Int))=false:=by simpa using hab
   simp only [Int.toNat_natCast]
   clear h hmy
   by_cases hL:timersList m (i:Int)=[]
   ·rw [if_pos hL]
    rw [hL] at B;clear hL hab
    go_enter func316,ntmps316
    go_wp2_with fail;refine A.out.mono ?_;rintro e w1 ⟨rfl,rfl⟩;go_wp2_with fail;refine B.out.mono ?_;rintro e w1 ⟨⟨v,rfl,hv⟩,hb⟩
    obtain ⟨b1,cap,rfl⟩:=RowAt.form hv
    replace hb:=Hd (hb0.out.trans (hb.mono hb0.out.size))
    clear hv;go_wp2;go_returns
    exact ⟨rfl,hfin.out _ hb.out⟩
   ·rw [if_neg hL]
    have hpos:0 < (timersList m (i:Int)).length:=List.length_pos_iff.2 hL
    have hz:(((timersList m (i:Int)).length:Int) == 0)=false:=by simp;exact hL
    obtain ⟨L,hLL⟩:∃ L,L=timersList m (i:Int):=⟨_,rfl⟩
    rw [← hLL] at B hpos hz ⊢;clear hL hLL
    obtain ⟨id,hid⟩:∃ x,x=L.headD 0:=⟨_,rfl⟩
    have hd:L.getD 0 0=id:=by rw [hid];cases L <;> rfl
    rw [← hid]
    obtain ⟨tw,htw⟩:∃ t,t=timersWhen m id:=⟨_,rfl⟩
    rw [← htw]
    obtain ⟨R,hR⟩:∃ R,R=timersMoveTo m i j id tw.1:=⟨_,rfl⟩
    rw [← hR];unfold timersMoveTo at hR
    obtain ⟨ad,had⟩:∃ x,x=wheelAdd (m.l.getD j noWheel) id tw.1:=⟨_,rfl⟩
    rw [← had] at hR
    have hne:j≠i:=fun e=>hab (by rw [e])
    replace hd:=Hd hd;replace htw:=Hd htw;replace had:=Hd had;replace hi:=Hd hi;replace hj:=Hd hj
    have hR1:R.2.1=id:=by rw [hR]
    have hR2:R.2.2=ad.2:=by rw [hR]
    have hR0:=Hd (congrArg Prod.fst hR);dsimp only at hR0;rw [hR1,hR2]
    obtain ⟨R0,hR00⟩:∃ R0,R0=R.1:=⟨_,rfl⟩
    rw [← hR00] at hR0 ⊢;clear hid hab hR hR1 hR2 hR00
    go_enter func316,ntmps316
    go_wp2_with fail;refine A.out.mono ?_;rintro e w1 ⟨rfl,rfl⟩;go_wp2_with fail;refine B.out.mono ?_;rintro e w1 ⟨⟨v,rfl,hv⟩,hb⟩
    obtain ⟨bb,cap,rfl,-,-,-,-,hcell,-⟩:=hv.open hpos
    have h0:=hcell 0 hpos
    rw [hd.out] at h0
    have hbw:=hb0.out.trans (hb.mono hb0.out.size)
    have X0:=HW.out.below ownW hbw
    have C:=twhen_any w1 X0 id
    rw [← htw.out] at C;replace C:=Hd C;obtain ⟨sp,wb,rv,ptrs,c,X⟩:=X0;obtain ⟨g,gc,rfl,hle,hg⟩:=X.open;obtain ⟨c0,c1,c2⟩:=X.cells
    have ci:=hg i hi.out
    have D:=Hd (wdrop_any w1 (X.ls i hi.out) id)
    obtain ⟨n,hn⟩:∃ n,n=m.l.length:=⟨_,rfl⟩
    have hin:i < n:=by rw [hn];exact hi.out
    have hjn:j < n:=by rw [hn];exact hj.out
    have c1':=c1;rw [← hn] at c1' hle;replace hX:=Hd X;replace hn:=Hd hn;replace hbw:=Hd hbw;clear hcell hb hv X c1 hg;go_wp2_with fail;refine C.out.mono ?_;rintro e w1 ⟨rfl,rfl⟩;go_wp2_with fail;refine D.out.mono ?_;rintro e w2 ⟨rfl,h1,h2⟩
    have X2:=hX.out.turn ownW (i:=i) hi.out h1 h2
    have hput:=run_put (P:=prog) X2.map underlying95 underlying3 id (.int .i64 j)
    have hjl:j < (m.l.set i (wheelDrop (m.l.getD i noWheel) id).1).length:=by rw [List.length_set];exact hj.out
    have X3:=X2.put ownW id j ⟨by omega,by show (j:Int) < 0+((m.l.set i (wheelDrop (m.l.getD i noWheel) id).1).length:Nat);omega⟩
    have E:=wadd_any _ (X3.ls j hjl) id tw.1 (by
     show wheelMax ((m.l.set i (wheelDrop (m.l.getD i noWheel) id).1).getD j noWheel)+1≤_
     rw [getD_set_other hne]
     have:=hf j hj.out
     omega)
    have hge:((⟨m.ids,m.l.set i (wheelDrop (m.l.getD i noWheel) id).1,mput m.wh id j⟩:Timers).l.getD j noWheel)=m.l.getD j noWheel:=getD_set_other hne
    rw [hge,← had.out] at E;replace E:=Hd E;obtain ⟨d0,d1,d2⟩:=X2.cells;obtain ⟨g2,gc2,hrv,-,hg2⟩:=X2.open
    have dg:=hg2 j hjl
    rw [slice_base hrv] at dg
    have d1':w2.cell? ⟨p,1,none⟩=some (.slice (some ⟨g,0,none⟩) n gc):=by rw [d1,hn.out]
    replace X2:=Hd X2;replace X3:=Hd X3;replace h2:=Hd h2;replace hjl:=Hd hjl;clear h1 c0 c1' c2 hg2 hrv hge d1;go_wp2_with fail;refine E.out.mono ?_;rintro e w4 ⟨rfl,h5,h6⟩;replace h5:=Hd h5;replace h6:=Hd h6;go_wp2;go_returns
    have X4:=X3.out.turn ownW (i:=j) hjl.out h5.out h6.out
    have hs0:=hbw.out.size;have hs2:=h2.out.size;have hs6:=h6.out.size
    simp only [mapPut_size] at hs6
    refine ⟨rfl,?_,?_⟩
    ·rw [hR0.out]
     refine X4.at.mono ownW (fun b hb=>?_) (fun b hb=>?_)
     ·rw [Plus.of_size (show (mapPut w2 wb id (.int .i64 j)).heap.size=w2.heap.size by simp)] at hb
      exact Plus.cover hs0 b (Plus.two hs2 hs6 b hb)
     ·exact hb.elim (fun e=>by have:=hltw.out b e;omega) (fun e=>e.2)
    ·have h3:Ch F w w2:=(Ch.of_below hbw.out).then h2.out (fun _ _ h=>h.1)
     refine (h3.mapPut (fun hb=>?_) id (.int .i64 j)).then h6.out (fun b hb e=>?_)
     ·exact X2.out.fm.1.elim (fun e=>e) (fun e=>by have:=e.1;omega)
     ·exact e.1.elim (fun e=>e) (fun e=>by have:=e.1;omega)
 ·rw [if_pos hm]
  have hm':(my != 0)=true:=by simpa using hm
  clear h hm hmy B
  go_enter func316,ntmps316
  go_wp2_with fail;refine A.out.mono ?_;rintro e w1 ⟨rfl,rfl⟩;go_wp2;go_returns
  exact ⟨rfl,hfin.out _ hb0.out⟩
section
structure Keeps (X:World→(Nat→Prop)→Prop):Prop where
 ch:∀ {w w':World} {F G:Nat→Prop},X w F→Ch G w w'→(∀ b,F b→¬ G b)→X w' F
 mono:∀ {w:World} {F G:Nat→Prop},X w F→(∀ b,F b→G b)→(∀ b,G b→b < w.heap.size)→X w G
section
variable {S : Type} {R : World → (Nat → Prop) → Nat → S → Prop}
structure PartQ (R:World→(Nat→Prop)→Nat→S→Prop) (HT ET ix:Nat) (hd:Value→Array Value) (X:World→(Nat→Prop)→Prop) (d0:S) (w w':World) (p k:Nat) (rv:Value) (ptrs c:Nat→Nat):Prop where
 head:Blk w' p (hd rv) HT
 row:RowAt w' (Col (Plus w w' (fun _=>False)) c 1) ET 1 rv k (ptrL ptrs k)
 rest:X w' (Col (Plus w w' (fun _=>False)) c 0)
 fp:Col (Plus w w' (fun _=>False)) c 3 p
 ls:∀ i,i < k→R w' (Col (Plus w w' (fun _=>False)) c (10+i)) (ptrs i) d0
 below:Below w.heap.size w w'
open Classical in
theorem PartQ.step (hR:Ownable R) {HT ET ix:Nat} {hd:Value→Array Value} {X:World→(Nat→Prop)→Prop} (hX:Keeps X) (hdix:∀ v v',(hd v).setIfInBounds ix v'=hd v') {d0:S} {w w1 w2 w3:World} {o:Obj} {p k x:Nat} {rv v':Value} {ptrs c:Nat→Nat}
  (h:PartQ R HT ET ix hd X d0 w w1 p k rv ptrs c) (hx:R w2 (Plus w1 w2 (fun _=>False)) x d0) (hb:Below w1.heap.size w1 w2)
  (hr:RowAt w3 (Plus (w2.alloc o) w3 (Col (Plus w w1 (fun _=>False)) c 1)) ET 1 v' (k+1) (ptrL ptrs k++[.pointer (some ⟨x,0,none⟩)])) (hc:Ch (Col (Plus w w1 (fun _=>False)) c 1) (w2.alloc o) w3) :
  ∃ c',PartQ R HT ET ix hd X d0 w (w3.setCell ⟨p,ix,none⟩ v') p (k+1) v' (fun i=>if i=k then x else ptrs i) c':=by
 have s1:=h.below.size;have s2:=hb.size
 have s3:w2.heap.size+1≤w3.heap.size:=by have:=hc.size;simpa using this
 have hlt:=h.head.lt
 have hoff:Ch (fun _=>False) w1 w2:=Ch.off hb
 have hc13:Ch (Col (Plus w w1 (fun _=>False)) c 1) w1 w3:=((hoff.mono (fun _ _ h=>h.elim)).alloc o).trans (hc.mono (fun _ _ h=>h))
 have hc14:Ch (fun b=>Col (Plus w w1 (fun _=>False)) c 1 b∨b=p) w1 (w3.setCell ⟨p,ix,none⟩ v'):=(hc13.mono (fun _ _ h=>.inl h)).setCell (p:=⟨p,ix,none⟩) (fun _=>.inr rfl) _
 obtain ⟨c',hc'⟩:∃ c':Nat→Nat,c'=fun b=>if b < w1.heap.size then c b else if b < w2.heap.size then 10+k else 1:=⟨_,rfl⟩
 have old:∀ i b,Col (Plus w w1 (fun _=>False)) c i b→Col (Plus w (w3.setCell ⟨p,ix,none⟩ v') (fun _=>False)) c' i b:=fun i b hb'=>by
  have h1:=plus0_lt b hb'.1
  refine ⟨.inr ⟨hb'.1.elim (fun e=>e.elim) (fun e=>e.1),by simp;omega⟩,?_⟩
  rw [hc']
  simp only [h1,if_true]
  exact hb'.2
 have ne1:∀ i,i≠1→i≠3→∀ b,Col (Plus w w1 (fun _=>False)) c i b→¬ (Col (Plus w w1 (fun _=>False)) c 1 b∨b=p):=fun i h1 h0 b hb' e=>e.elim (fun e=>by have:=hb'.2.symm.trans e.2;omega) (fun e=>by subst e;have:=hb'.2.symm.trans h.fp.2;omega)
 refine ⟨c',?_,?_,hX.mono (hX.ch h.rest hc14 (ne1 0 (by omega) (by omega))) (old 0) (fun b hb'=>plus0_lt b hb'.1),old _ _ h.fp,fun i hi=>?_,?_⟩
 ·have h1:Blk w3 p (hd rv) HT:=h.head.ch hc13 (Col.apart (by omega) _ h.fp)
  have:=h1.set ix v'
  rwa [hdix] at this
 ·rw [ptrL_succ]
  refine (hr.ch ((Ch.refl (fun b=>b=p) w3).put ix v') (fun b hb' e=>?_)).mono (fun b hb'=>?_)
  ·have e:b=p:=e
   subst e
   exact hb'.elim (fun e=>by have:=e.2.symm.trans h.fp.2;omega) (fun e=>by have:=e.1;simp at this;omega)
  ·refine hb'.elim (old 1 b) (fun e=>?_)
   have e1:=e.1;have e2:=e.2
   simp only [World.size_alloc] at e1
   refine ⟨.inr ⟨by omega,by simpa using e2⟩,?_⟩
   rw [hc']
   simp only [show ¬ b < w1.heap.size by omega,show ¬ b < w2.heap.size by omega,if_false]
 ·by_cases e:i=k
  ·subst e
   simp only [if_true]
   refine hR.mono (hR.ch (hR.ch hx ((Ch.refl (fun _=>False) w2).alloc o) (fun _ _ h=>h)) ((hc.mono (fun _ _ h=>.inl h)).setCell (F:=fun b=>Col (Plus w w1 (fun _=>False)) c 1 b∨b=p) (p:=⟨p,ix,none⟩) (fun _=>.inr rfl) v') (fun b hb' e=>?_)) (fun b hb'=>?_) ?_
   ·have h1:w1.heap.size≤b:=hb'.elim (fun e=>e.elim) (fun e=>e.1)
    exact e.elim (fun e=>by have:=plus0_lt b e.1;omega) (fun e=>by omega)
   ·obtain ⟨h1,h2⟩:w1.heap.size≤b∧b < w2.heap.size:=hb'.elim (fun e=>e.elim) (fun e=>e)
    refine ⟨.inr ⟨by omega,by simp;omega⟩,?_⟩
    rw [hc']
    simp only [show ¬ b < w1.heap.size by omega,h2,if_false,if_true]
   ·exact fun b hb'=>plus0_lt b hb'.1
  ·simp only [e,if_false]
   exact hR.mono (hR.ch (h.ls i (by omega)) hc14 (ne1 (10+i) (by omega) (by omega))) (old _) (fun b hb'=>plus0_lt b hb'.1)
 ·have h3:Below w.heap.size w w3:=⟨hc13.os.trans h.below.os,hc13.tape.trans h.below.tape,hc13.output.trans h.below.output,by omega,fun j hj=>(hc13.block j (by omega) (fun e=>by have:=e.1.elim (fun e=>e.elim) (fun e=>e.1);omega)).trans (h.below.block j hj)⟩
  have hp:w.heap.size≤p:=h.fp.1.elim (fun e=>e.elim) (fun e=>e.1)
  exact h3.setCell (p:=⟨p,ix,none⟩) hp v'
def Beside (sp most wb:Nat) (w:World) (F:Nat→Prop):Prop:=SlotAt w (fun b=>F b∧b≠wb) sp most ⟨0,0⟩∧IMapAt w wb []∧F wb∧∀ b,F b→b < w.heap.size
theorem beside_keeps (sp most wb:Nat):Keeps (Beside sp most wb) :=
 ⟨fun h hc hd=>⟨h.1.ch hc (fun b hb=>hd b hb.1),h.2.1.ch hc (hd _ h.2.2.1),h.2.2.1,fun b hb=>Nat.lt_of_lt_of_le (h.2.2.2 b hb) hc.size⟩,fun h hd hG=>⟨h.1.mono (fun b hb=>⟨hd b hb.1,hb.2⟩),h.2.1,hd _ h.2.2.1,hG⟩⟩
theorem PartQ.multi (hR:Ownable R) {HT ET most sp wb:Nat} {lo:Int} {d d0:S} {p k:Nat} {rv:Value} {ptrs c:Nat→Nat} (h:PartQ R HT ET 1 (fun v=>#[.pointer (some ⟨sp,0,none⟩),v,.map (some wb)]) (Beside sp most wb) d0 w w' p k rv ptrs c) (h1:1≤k) (h2:k≤65) :
  MultiAt R HT ET most lo d w' (Plus w w' (fun _=>False)) p ⟨⟨0,0⟩,List.replicate k d0,[]⟩:=by
 obtain ⟨hs,hm,hw,-⟩:=h.rest
 have hlt:∀ b,Plus w w' (fun _=>False) b→b < w'.heap.size:=plus0_lt
 refine ⟨sp,wb,rv,ptrs,fun b=>if b=wb then 2 else c b,h.head,hs.mono (fun b hb=>⟨hb.1.1,by simp only [hb.2,if_false];exact hb.1.2⟩),?_,hm,⟨hw.1,by simp⟩,⟨h.fp.1,?_⟩,hlt,fun i hi=>?_,by simpa using h1,by simpa using h2,fun x hx=>by cases hx⟩
 ·simp only [List.length_replicate]
  refine h.row.mono (fun b hb=>⟨hb.1,?_⟩)
  have:b≠wb:=fun e=>by subst e;have:=hb.2.symm.trans hw.2;omega
  simp only [this,if_false]
  exact hb.2
 ·have:p≠wb:=fun e=>by subst e;have:=h.fp.2.symm.trans hw.2;omega
  simp only [this,if_false]
  exact h.fp.2
 ·have hi':i < k:=by simpa using hi
  have e:(List.replicate k d0).getD i d=d0:=by simp [hi']
  show R w' _ _ ((List.replicate k d0).getD i d)
  rw [e]
  refine hR.mono (h.ls i hi') (fun b hb=>⟨hb.1,?_⟩) (fun b hb=>hlt b hb.1)
  have:b≠wb:=fun e=>by subst e;have:=hb.2.symm.trans hw.2;omega
  simp only [this,if_false]
  exact hb.2
end
end
theorem info171:(prog.info? 171).map (fun i=>(i.zero,i.size,i.bytes))=some (some (.pointer none),1,8):=by kernel_rfl
def timers0 (cpus:Nat):Timers:=⟨⟨0,0⟩,List.replicate cpus (wheel0 0),[]⟩
theorem timer_new (w:World) (cpus:Nat) (h1:1≤cpus) (h64:cpus≤64):Calls prog 54 #[.int .i64 cpus] w fun e w'=>(∃ p,e=.returned (.tuple #[.pointer (some ⟨p,0,none⟩),.int .i64 0])∧TimersAt w' (Plus w w' (fun _=>False)) p (timers0 cpus))∧Below w.heap.size w w':=by
 have hmm:=@run_makeMap prog
 have S:=Hd (slot_new w 48 (by omega) (by omega))
 go_enter func54,ntmps54
 go_wp2_with fail;refine S.out.mono ?_;rintro e w1 ⟨⟨sp,rfl,hs⟩,hb⟩;have hs1:=hb.size;have HS:=Hd hs;have HB:=Hd hb;clear hs hb;go_wp2
 have H0:PartQ WheelAt 175 171 1 (fun v=>#[.pointer (some ⟨sp,0,none⟩),v,.map (some w1.heap.size)]) (Beside sp 48 w1.heap.size) (wheel0 0) w ((w1.alloc (.map #[] 0)).alloc (.cells #[.pointer (some ⟨sp,0,none⟩),.slice none 0 0,.map (some w1.heap.size)] 175)) (w1.heap.size+1) 0 (.slice none 0 0) (fun _=>0) (fun b=>if b=w1.heap.size+1 then 3 else 0):=by
  have hb2:Below w1.heap.size w1 ((w1.alloc (.map #[] 0)).alloc (.cells #[.pointer (some ⟨sp,0,none⟩),.slice none 0 0,.map (some w1.heap.size)] 175)):=((Below.refl _ _).alloc (Nat.le_refl _) _).alloc (by simp) _
  refine ⟨Blk.at _ _ (by simp),RowAt.nil _ _ _ _,⟨(HS.out.ch (Ch.off hb2) (fun _ _ h=>h)).mono (fun b hb=>?_),MapAt.ch (MapAt.new w1) ((Ch.refl (fun _=>False) _).alloc _) (fun h=>h),⟨.inr ⟨hs1,by simp;omega⟩,by simp⟩,fun b hb=>plus0_lt b hb.1⟩,⟨.inr ⟨by omega,by simp⟩,by simp⟩,fun i hi=>by omega,HB.out.trans (hb2.mono hs1)⟩
  have hlt:=plus0_lt b hb
  refine ⟨⟨.inr ⟨hb.elim (fun e=>e.elim) (fun e=>e.1),by simp;omega⟩,?_⟩,by omega⟩
  have:b≠w1.heap.size+1:=by omega
  simp [this]
 replace H0:=Hd H0
 go_loopw [27,7,8] (fun iv _ _ wr=>∃ k:Nat,iv=.int .i64 k∧k≤cpus∧∃ rv ptrs c,Hid (PartQ WheelAt 175 171 1 (fun v=>#[.pointer (some ⟨sp,0,none⟩),v,.map (some w1.heap.size)]) (Beside sp 48 w1.heap.size) (wheel0 0) w wr (w1.heap.size+1) k rv ptrs c)) (fun iv _ _ _=>cpus - (intOf iv).toNat)
 case atStart=>exact ⟨0,rfl,by omega,_,_,_,H0⟩
 case round =>
  clear H0 hmm;obtain ⟨k,rfl,hk,rv,ptrs,c,H⟩:=hrel
  by_cases hlt:k < cpus
  ·have A:=Hd (wheel_new wr 0 (by omega))
   have c0:wr.cell? ⟨w1.heap.size+1,1,none⟩=some rv:=H.out.head.cell 1
   obtain ⟨base,cap,rfl⟩:=H.out.row.form;go_wp2_with fail;refine A.out.mono ?_;rintro e w2 ⟨⟨x,rfl,hx⟩,hb⟩
   have hz:=(H.out.head.ch (Ch.off hb) (fun h=>h))
   have c2:w2.cell? ⟨w1.heap.size+1,1,none⟩=some (.slice base k cap):=hz.cell 1
   have hrow:=fun o=>RowAt.ch H.out.row (((Ch.off hb)).alloc o) (fun _ _ h=>h)
   replace hrow:=Hd hrow;replace hx:=Hd hx;have HBb:=Hd hb;replace hz:=Hd hz;clear hb
   go_wp2_with (at_builtin;refine wpList_app rfl _ _ 173 rfl info171 underlying173 rfl (by omega) (hrow.out _) (a:=⟨w2.heap.size,0,none⟩) (m:=1) (c:=1) (news:=[.pointer (some ⟨x,0,none⟩)]) rfl rfl rfl ?_ (by simp [Value.oneCell']) (by omega) (by unfold maxLen;omega) (by omega) ?_)
   ·intro j u hj
    cases j with
    | zero =>
     have:u=.pointer (some ⟨x,0,none⟩):=by simpa using hj.symm
     subst this
     exact cell_at1 _ _ rfl
    | succ j=>simp at hj
   ·intro v' w3 h5 h6
    have hz3:=(hz.out.alloc _).ch h6 (Col.apart (by omega) _ H.out.fp)
    have c3:w3.cell? ⟨w1.heap.size+1,1,none⟩=some (.slice base k cap):=hz3.cell 1
    have f3:w3.frozen? ⟨w1.heap.size+1,1,none⟩=false:=hz3.frozen 1
    obtain ⟨base',cap',rfl⟩:=h5.form
    obtain ⟨c',hst⟩:=H.out.step ownW (beside_keeps _ _ _) (fun _ _=>rfl) hx.out HBb.out h5 h6
    replace hst:=Hd hst;clear hz3 h5 h6 hz hrow hx HBb H A;go_wp2;go_roundw
    case rel=>exact ⟨k+1,by go_num,hlt,_,_,_,hst⟩
    case measure=>simp [intOf];omega
  ·have:k=cpus:=by omega
   subst this;go_wp2;go_returns
   exact ⟨⟨_,rfl,H.out.multi ownW h1 (by omega)⟩,H.out.below⟩
def Fifo32 (w:World) (F:Nat→Prop) (p:Nat) (l:List Int):Prop:=FifoAt w F p 32 l
theorem ownF:Ownable Fifo32:=⟨fun h hc hd=>FifoAt.ch h hc hd,fun h hd _=>FifoAt.mono h hd⟩
abbrev Works:=Multi (List Int)
abbrev WorksAt:=MultiAt Fifo32 222 223 32 (-1) ([]:List Int)
abbrev WorksAtQ:=MultiQ Fifo32 222 223 32 (-1) ([]:List Int)
def wMay (n:Nat) (cpu from':Int):Int:=if cpu < from'∨(n:Int) - 1≤cpu then 3 else 0
theorem wMay_cases (n:Nat) (cpu from':Int) (hf:from'=-1∨from'=0):(wMay n cpu from'=3∧(cpu < from'∨(from'≤cpu∧(n:Int) - 1≤cpu)))∨(wMay n cpu from'=0∧∃ i:Nat,cpu=(i:Int) - 1∧i < n∧from'≤cpu):=by
 unfold wMay
 by_cases h:cpu < from'∨(n:Int) - 1≤cpu
 ·rw [if_pos h]
  exact .inl ⟨rfl,by omega⟩
 ·rw [if_neg h]
  exact .inr ⟨rfl,(cpu+1).toNat,by omega,by omega,by omega⟩
theorem lmay_any (w:World) {m:Works} (h:WorksAt w F p m) (cpu from':Int) (hf:from'=-1∨from'=0):Calls prog 151 #[.pointer (some ⟨p,0,none⟩),.int .i64 cpu,.int .i64 from'] w fun e w'=>e=.returned (.int .i64 (wMay m.l.length cpu from'))∧w=w':=by
 have hfb:-1≤from'∧from'≤0:=by rcases hf with rfl | rfl <;> omega
 obtain ⟨sp,wb,rv,ptrs,c,h⟩:=h;obtain ⟨g,gc,rfl,-,-⟩:=h.open
 have c1:w.cell? ⟨p,1,none⟩=some (.slice (some ⟨g,0,none⟩) m.l.length gc):=h.head.cell 1
 have h1:=h.n1;have h65:=h.n64;clear h
 have hc:=wMay_cases m.l.length cpu from' hf
 generalize m.l.length=n at *;generalize wMay n cpu from'=r at *;clear hf
 rcases hc with ⟨rfl,hc | ⟨hc,hc2⟩⟩ | ⟨rfl,i,rfl,hi,hc⟩
 all_goals
  go_enter func151,ntmps151
  go_wp2;go_returns
  exact ⟨rfl,rfl⟩
theorem llist_any (w:World) {p sp wb:Nat} {rv:Value} {ptrs c:Nat→Nat} {m:Works} (h:WorksAtQ w F p sp wb rv ptrs c m) (i:Nat) (hi:i < m.l.length) (cpu:Int) (hc:cpu=(i:Int) - 1):Calls prog 153 #[.pointer (some ⟨p,0,none⟩),.int .i64 cpu] w fun e w'=>e=.returned (.pointer (some ⟨ptrs i,0,none⟩))∧w=w':=by
 subst hc;obtain ⟨g,gc,rfl,hle,hg⟩:=h.open
 have c1:w.cell? ⟨p,1,none⟩=some (.slice (some ⟨g,0,none⟩) m.l.length gc):=h.head.cell 1
 have ci:=hg i hi
 have h65:=h.n64;clear h hg;generalize m.l.length=n at *
 go_enter func153,ntmps153
 go_wp2;go_returns
 exact ⟨rfl,rfl⟩
theorem lwhere_any (w:World) {m:Works} (h:WorksAt w F p m) (d:Int):Calls prog 105 #[.pointer (some ⟨p,0,none⟩),.int .i64 d] w fun e w'=>e=.returned (.tuple #[.int .i64 ((mget m.wh d).getD 0),.bool (mget m.wh d).isSome])∧w=w':=by
 obtain ⟨sp,wb,rv,ptrs,c,h⟩:=h
 have c2:w.cell? ⟨p,2,none⟩=some (.map (some wb)):=h.head.cell 2
 have hl:=h.map.look underlying95 underlying3 (zero3 w) d
 clear h;generalize (mget m.wh d).getD 0=v at *;generalize (mget m.wh d).isSome=b at *
 go_enter func105,ntmps105
 go_wp2;go_returns
 exact ⟨rfl,rfl⟩
theorem lhas_any (w:World) {m:Works} (h:WorksAt w F p m) (d:Int):Calls prog 43 #[.pointer (some ⟨p,0,none⟩),.int .i64 d] w fun e w'=>e=.returned (.bool (mget m.wh d).isSome)∧w=w':=by
 have A:=Hd (lwhere_any w h d);clear h;generalize (mget m.wh d).getD 0=v at *;generalize (mget m.wh d).isSome=b at *
 go_enter func43,ntmps43
 go_wp2_with fail;refine A.out.mono ?_;rintro e w1 ⟨rfl,rfl⟩;go_wp2;go_returns
 exact ⟨rfl,rfl⟩
def worksList (m:Works) (cpu:Int):List Int:=if wMay m.l.length cpu (-1)≠0 then [] else m.l.getD (cpu+1).toNat []
theorem llistof_any (w:World) {m:Works} (h:WorksAt w F p m) (cpu:Int):Calls prog 96 #[.pointer (some ⟨p,0,none⟩),.int .i64 cpu] w fun e w'=>(∃ v,e=.returned v∧IntsAt w' (New w) v (worksList m cpu))∧Below w.heap.size w w':=by
 have A:=Hd (lmay_any w h cpu (-1) (.inl rfl))
 obtain ⟨sp,wb,rv,ptrs,c,h⟩:=h;unfold worksList
 rcases wMay_cases m.l.length cpu (-1) (.inl rfl) with ⟨e,-⟩ | ⟨e,i,rfl,hi,-⟩
 ·rw [e] at A ⊢
  rw [if_pos (by decide)];clear h e
  go_enter func96,ntmps96
  go_wp2_with fail;refine A.out.mono ?_;rintro e w1 ⟨rfl,rfl⟩;go_wp2;go_returns
  exact ⟨⟨_,rfl,IntsAt.nil _ _⟩,Below.refl _ _⟩
 ·rw [e] at A ⊢
  rw [if_neg (by decide),show ((i:Int) - 1+1).toNat=i by omega];have B:=Hd (llist_any w h i hi _ rfl)
  have C:=Hd (qlist_any w _ _ 32 _ (h.ls i hi))
  clear h e hi
  go_enter func96,ntmps96
  go_wp2_with fail;refine A.out.mono ?_;rintro e w1 ⟨rfl,rfl⟩;go_wp2_with fail;refine B.out.mono ?_;rintro e w1 ⟨rfl,rfl⟩;go_wp2_with fail;refine C.out.mono ?_;rintro e w1 ⟨⟨v,rfl,hv⟩,hb⟩
  obtain ⟨b,cap,rfl⟩:=RowAt.form hv
  replace hv:=Hd hv;replace hb:=Hd hb;go_wp2;go_returns
  exact ⟨⟨_,rfl,hv.out⟩,hb.out⟩
def worksLoad (m:Works) (cpu:Int):Int:=((worksList m cpu).length:Nat)
theorem lload_any (w:World) {m:Works} (h:WorksAt w F p m) (cpu:Int):Calls prog 26 #[.pointer (some ⟨p,0,none⟩),.int .i64 cpu] w fun e w'=>e=.returned (.int .i64 (worksLoad m cpu))∧Below w.heap.size w w':=by
 have C:=Hd (llistof_any w h cpu);unfold worksLoad;clear h;generalize worksList m cpu=L at *
 go_enter func26,ntmps26
 go_wp2_with fail;refine C.out.mono ?_;rintro e w1 ⟨⟨v,rfl,hv⟩,hb⟩
 obtain ⟨b,cap,rfl⟩:=RowAt.form hv
 replace hb:=Hd hb;clear hv;go_wp2;go_returns
 exact ⟨rfl,hb.out⟩
def worksDrop (m:Works) (d:Int):Works × Int :=
 match mget m.wh d with
 | none=>(m,4)
 | some v=>(⟨(slotGive 32 m.ids d).1,m.l.set (v+1).toNat (dropF (m.l.getD (v+1).toNat []) d).1,mdel m.wh d⟩,(dropF (m.l.getD (v+1).toNat []) d).2)
theorem ldrop_any (w:World) {m:Works} (h:WorksAt w F p m) (d:Int):Calls prog 274 #[.pointer (some ⟨p,0,none⟩),.int .i64 d] w fun e w'=>e=.returned (.int .i64 (worksDrop m d).2)∧WorksAt w' (Plus w w' F) p (worksDrop m d).1∧Ch F w w':=by
 have HT:=Hd h;have A:=Hd (lwhere_any w h d);obtain ⟨sp,wb,rv,ptrs,c,h⟩:=h;obtain ⟨c0,c1,c2⟩:=h.cells;unfold worksDrop
 cases hw:mget m.wh d with
 | none =>
  rw [hw] at A;clear h hw c0 c1 c2
  go_enter func274,ntmps274
  go_wp2_with fail;refine A.out.mono ?_;rintro e w1 ⟨rfl,rfl⟩;go_wp2;go_returns
  exact ⟨rfl,by rw [Plus.self];exact HT.out,Ch.refl _ _⟩
 | some v =>
  rw [hw] at A
  have hok:=h.ok _ (mget_mem hw)
  dsimp only at hok
  obtain ⟨i,hvi⟩:∃ i:Nat,v=(i:Int) - 1:=⟨(v+1).toNat,by omega⟩
  have hi:i < m.l.length:=by omega
  dsimp only;rw [show (v+1).toNat=i by omega]
  have hdel:=fun ty=>run_del (P:=prog) h.map underlying95 underlying3 d ty 3
  have X1:=h.del ownF d
  have B:=Hd (slot_give _ X1.ids d)
  have hids:=fun (w2:World) (hs:SlotAt w2 _ sp 32 (slotGive 32 m.ids d).1) (hc:Ch (Col F c 0) (mapDel w wb d) w2)=>X1.turnIds ownF hs hc
  replace hids:=Hd hids;have hfm:=h.fm.1;have hlt0:=Hd h.lt;replace hvi:=Hd hvi;clear h X1 hw hok c1;generalize slotGive 32 m.ids d=u at *;obtain ⟨s1,why⟩:=u
  obtain ⟨D0,hD0⟩:∃ x,x=dropF (m.l.getD i []) d:=⟨_,rfl⟩
  rw [← hD0];replace hD0:=Hd hD0;replace hi:=Hd hi
  obtain ⟨M,hM⟩:∃ M:Works,M=⟨s1,m.l.set i D0.1,mdel m.wh d⟩:=⟨_,rfl⟩
  rw [← hM];replace hM:=Hd hM
  go_enter func274,ntmps274
  go_wp2_with fail;refine A.out.mono ?_;rintro e w1 ⟨rfl,rfl⟩;go_wp2_with fail;refine B.out.mono ?_;rintro e w2 ⟨rfl,h1,h2⟩
  have X2:=hids.out w2 h1 h2
  have C:=Hd (llist_any w2 X2 i hi.out v hvi.out)
  have D:=drop_any w2 _ (Col.lt X2.lt) _ 32 _ (X2.ls i hi.out) d
  have hge:(⟨s1,m.l,mdel m.wh d⟩:Works).l.getD i []=m.l.getD i []:=rfl
  rw [hge,← hD0.out] at D;replace D:=Hd D;obtain ⟨d0,d1,d2⟩:=X2.cells;replace X2:=Hd X2;replace h2:=Hd h2;clear h1 c0 c2 d1 d2 hge;go_wp2_with fail;refine C.out.mono ?_;rintro e w1 ⟨rfl,rfl⟩;go_wp2_with fail;refine D.out.mono ?_;rintro e w4 ⟨rfl,h5,h6⟩;replace h5:=Hd h5;replace h6:=Hd h6;go_wp2;go_returns
  have X4:=X2.out.turn ownF (i:=i) hi.out h5.out h6.out
  have hs2:=h2.out.size;have hs6:=h6.out.size
  simp only [mapDel_size] at hs2
  rw [hM.out]
  refine ⟨rfl,X4.at.mono ownF (fun b hb=>?_) (fun b hb=>?_),?_⟩
  ·rw [Plus.of_size (show (mapDel w wb d).heap.size=w.heap.size by simp)] at hb
   exact Plus.two hs2 hs6 b hb
  ·exact hb.elim (fun e=>by have:=hlt0.out b e;omega) (fun e=>e.2)
  ·have h3:Ch F w w2:=((Ch.refl F w).mapDel (fun _=>hfm) d).then h2.out (fun _ _ h=>h.1)
   refine h3.then h6.out (fun b hb e=>?_)
   have:=e.1
   exact this.elim (fun e=>e) (fun e=>by have:=e.1;simp at this;omega)
end Go.Proofs.YtiocbpabbjgkhaaGreatDoor
