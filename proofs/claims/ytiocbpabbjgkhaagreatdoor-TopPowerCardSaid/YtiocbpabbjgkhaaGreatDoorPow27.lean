/- Part 27 of the proof: contracts and plain laws, each under the conditions that it names. -/
import Derived.Test.YtiocbpabbjgkhaaGreatDoorPow26
import Derived.Laws.CopyRow
import Derived.Laws.IdiomArrays
set_option maxRecDepth 100000
set_option maxHeartbeats 20000000
set_option linter.unusedVariables false
set_option linter.unusedSimpArgs false
namespace Go.Proofs.YtiocbpabbjgkhaaGreatDoor
open Go.RowKit Go.Proofs.Tryz
variable {w w' : World} {F : Nat → Prop} {p : Nat} {f : KF} {k : K}
section
open Go.Proofs.YtiocbpabbjgkhaaGreatDoor.NumD
theorem info43:(prog.info? 43).map (fun i=>(i.zero,i.size,i.bytes))=some (some (.agg #[.int .i64 0,.int .i64 0,.int .i64 0,.int .i64 0,.int .i64 0]),5,40):=by kernel_rfl
theorem info39:(prog.info? 39).map (fun i=>(i.zero,i.size,i.bytes))=some (some (.agg #[.int .i64 0,.int .i64 0,.int .i64 0,.int .u64 0,.int .i64 0]),5,40):=by kernel_rfl
def fives {α:Type} (c:α→Array Value) (l:List α):List Value:=l.flatMap fun r=>(c r).toList
theorem fives_len {α:Type} {c:α→Array Value} (hc:∀ r,(c r).size=5) (l:List α):(fives c l).length=l.length*5:=by
 induction l with
 | nil=>rfl
 | cons a l ih =>
  show ((c a).toList++fives c l).length=_
  rw [List.length_append,ih,Array.length_toList,hc,List.length_cons]
  omega
theorem fives_app {α:Type} (c:α→Array Value) (l m:List α):fives c (l++m)=fives c l++fives c m:=by simp [fives]
theorem fives_get {α:Type} {c:α→Array Value} (hc:∀ r,(c r).size=5):∀ (l:List α) (i:Nat) (r:α),l[i]? = some r→∀ j v,(c r)[j]? = some v→(fives c l)[i*5+j]? = some v
 | [],i,r,h,_,_,_=>by simp at h
 | a::t,0,r,h,j,v,hv=>by
  simp at h
  subst h
  have hj:j < (c a).toList.length:=by rw [Array.length_toList];exact (Array.getElem?_eq_some_iff.1 hv).1
  show ((c a).toList++fives c t)[0*5+j]? = some v
  rw [Nat.zero_mul,Nat.zero_add,List.getElem?_append_left hj,Array.getElem?_toList]
  exact hv
 | a::t,i+1,r,h,j,v,hv=>by
  show ((c a).toList++fives c t)[(i+1)*5+j]? = some v
  have e:(c a).toList.length=5:=by rw [Array.length_toList];exact hc a
  rw [List.getElem?_append_right (by omega),show (i+1)*5+j - (c a).toList.length=i*5+j by omega]
  exact fives_get hc t i r (by simpa using h) j v hv
def RecL (w:World) (F:Nat→Prop) (v:Value) (l:List Rec):Prop:=RowAt w F 43 5 v l.length (fives recC l)
def EvL (w:World) (F:Nat→Prop) (v:Value) (l:List Ev):Prop:=RowAt w F 39 5 v l.length (fives evC l)
theorem recC_size (r:Rec):(recC r).size=5:=rfl
theorem evC_size (e:Ev):(evC e).size=5:=rfl
theorem fives_one {α:Type} {c:α→Array Value} (hc:∀ r,∀ u∈(c r).toList,u.oneCell'=true) (l:List α):∀ u∈fives c l,u.oneCell'=true:=by
 intro u hu
 obtain ⟨r,-,h⟩:=List.mem_flatMap.1 hu
 exact hc r u h
theorem recC_one (r:Rec):∀ u∈(recC r).toList,u.oneCell'=true:=by
 intro u hu
 simp [recC] at hu
 rcases hu with rfl | rfl | rfl | rfl | rfl <;> rfl
theorem evC_one (e:Ev):∀ u∈(evC e).toList,u.oneCell'=true:=by
 intro u hu
 simp [evC] at hu
 rcases hu with rfl | rfl | rfl | rfl | rfl <;> rfl
theorem run_app5 {α:Type} {c:α→Array Value} (hc:∀ r,(c r).size=5) (h1:∀ r,∀ u∈(c r).toList,u.oneCell'=true) {E t:TypeId} {z:Value} (hE:(prog.info? E).map (fun i=>(i.zero,i.size,i.bytes))=some (some z,5,40)) (hz:z.cells.size=5) (ht:prog.underlying t=some (.slice E))
  {w:World} {F:Nat→Prop} {v:Value} {l l2:List α} (h:RowAt w F E 5 v l.length (fives c l)) (hl:l.length+l2.length≤100000) {a:Option Addr} {cap:Nat} (ha:l2≠[]→∃ b off,a=some ⟨b,off,none⟩∧∀ j u,(fives c l2)[j]? = some u→w.cell? ⟨b,off+j,none⟩=some u) (ty:TypeId) :
  ∃ v' w',(Builtin.append_ #[t,t] ty #[v,.slice a l2.length cap]).run prog w=.ok v' w'∧RowAt w' (Plus w w' F) E 5 v' (l++l2).length (fives c (l++l2))∧Ch F w w':=by
 obtain ⟨i,h3,h4,h5,h6⟩:=info_parts hE
 cases l2 with
 | nil =>
  obtain ⟨base,cap1,rfl⟩:=RowAt.form h
  have hle:l.length≤cap1:=by obtain ⟨_,b,c,e,h,_⟩:=h;cases e;exact h
  refine ⟨_,w,run_app0 ht h3 w hle,?_,Ch.refl _ _⟩
  rw [List.append_nil,Plus.self]
  exact h
 | cons x t2 =>
  obtain ⟨b,off,rfl,hcell⟩:=ha (by simp)
  obtain ⟨v',w',hr,h7,h8⟩:=run_app (P:=prog) (ty:=ty) ht h3 h4 h5 h6 hz (by omega) h (a:=⟨b,off,none⟩) (m:=(x::t2).length) (c:=cap) (news:=fives c (x::t2)) (fives_len hc _) (fun j u hj=>by
   have:(⟨b,off,none⟩:Addr).add j=⟨b,off+j,none⟩:=add_off b off j
   rw [this];exact hcell j u hj) (fives_one h1 _) (by simp) (by unfold maxLen;omega) (by omega)
  refine ⟨v',w',hr,?_,h8⟩
  rw [List.length_append,fives_app]
  exact h7
theorem wpList_app5 {α:Type} {c:α→Array Value} (hc:∀ r,(c r).size=5) (h1:∀ r,∀ u∈(c r).toList,u.oneCell'=true) {E t:TypeId} {z:Value} (hE:(prog.info? E).map (fun i=>(i.zero,i.size,i.bytes))=some (some z,5,40)) (hz:z.cells.size=5) (ht:prog.underlying t=some (.slice E))
  {w:World} {ops:Array Oper} {rest:List Oper} {o:Oper} {A:Act} {Q:Exit→Act→World→Prop} (hgd:o.guard=none) (s x:Operand)
  (ho:o.op=.call { callee:=.builtin .append,args:=#[s,x],argTypes:=#[t,t] }) {F:Nat→Prop} {v:Value} {l l2:List α} {a:Option Addr} {cap:Nat} (hs:A.eval s=v) (hx:A.eval x=.slice a l2.length cap) (h:RowAt w F E 5 v l.length (fives c l)) (hl:l.length+l2.length≤100000) (ha:l2≠[]→∃ b off,a=some ⟨b,off,none⟩∧∀ j u,(fives c l2)[j]? = some u→w.cell? ⟨b,off+j,none⟩=some u)
  (hK:∀ v' w',RowAt w' (Plus w w' F) E 5 v' (l++l2).length (fives c (l++l2))→Ch F w w'→wpList prog ops Q rest (A.put o.dst v') w'):wpList prog ops Q (o::rest) A w:=by
 refine wpList_plain hgd fun K hh=>?_
 obtain ⟨v',w',hr,h3,h4⟩:=run_app5 hc h1 hE hz ht h hl ha o.type
 unfold Oper.wp execOp
 simp only [ho,resolve,invoke,builtin,Sem.run_bind,Sem.run_pure,Result.andThen_ok,List.map_toArray,List.map_cons,List.map_nil,hs,hx]
 rw [hr]
 exact hh _ _ (hK v' w' h3 h4)
theorem row5_at {α:Type} {c:α→Array Value} (hc:∀ r,(c r).size=5) {E:TypeId} {v:Value} {l:List α} (h:RowAt w F E 5 v l.length (fives c l)) (hn:0 < l.length):∃ g cap,v=.slice (some ⟨g,0,none⟩) l.length cap∧l.length≤cap∧cap≤maxLen∧F g∧g < w.heap.size∧(∀ i r,l[i]? = some r→∀ j u,(c r)[j]? = some u→w.cell? ⟨g,i*5+j,none⟩=some u)∧(∀ j,w.frozen? ⟨g,j,none⟩=false):=by
 obtain ⟨g,cap,h1,h2,h3,h4,h5,h6,h7⟩:=h.open hn
 exact ⟨g,cap,h1,h2,h3,h4,h5,fun i r hi j u hj=>h6 _ _ (fives_get hc l i r hi j u hj),h7⟩
end
section
open Go.Proofs.YtiocbpabbjgkhaaGreatDoor.NumD
theorem sets_any (w:World) (e:Ev):Calls prog 109 #[.agg (evC e)] w fun r w'=>r=.returned (.bool (setsE e))∧Below w.heap.size w w':=by
 obtain ⟨kind,cpu,id,m,n⟩:=e;unfold evC setsE;dsimp only
 have c0:=cell_at (w:=w) #[.int .i64 kind,.int .i64 cpu,.int .i64 id,.int .u64 m,.int .i64 n] 39 0 rfl
 have hb:Below w.heap.size w (w.alloc (.cells #[.int .i64 kind,.int .i64 cpu,.int .i64 id,.int .u64 m,.int .i64 n] 39)):=(Below.refl _ _).alloc (Nat.le_refl _) _
 try dsimp only at c0
 by_cases h28:kind=28
 ·subst h28
  go_enter func109,ntmps109
  go_wp2;go_returns
  exact ⟨rfl,hb⟩
 have g28:(kind == 28)=false:=by simpa using h28
 by_cases h29:kind=29
 ·subst h29
  go_enter func109,ntmps109
  go_wp2;go_returns
  exact ⟨rfl,hb⟩
 have g29:(kind == 29)=false:=by simpa using h29
 go_enter func109,ntmps109
 go_wp2;go_returns
 exact ⟨by simp [h28,h29],hb⟩
theorem tell_any (w:World) {B:Nat} {out:Value} {l l2:List Rec} (hB:Blk w B #[out] 40) (hF:¬ F B) (hlt:∀ b,F b→b < w.heap.size) (hO:RecL w F out l) (hl:l.length+l2.length≤100000) {v2:Value} (h2:RecsAt w v2 l2) (e:Ev) :
  Calls prog 108 #[.agg (evC e),v2,.pointer (some ⟨B,0,none⟩)] w fun r w'=>r=.returned (.tuple #[])∧(∃ out',Blk w' B #[out'] 40∧RecL w' (Plus w w' F) out' (l++if setsE e then [] else l2))∧Ch (fun b=>b=B∨F b) w w':=by
 obtain ⟨hb0,hB0⟩:Below w.heap.size w (w.alloc (.cells (evC e) 39))∧w.heap.size≤(w.alloc (.cells (evC e) 39)).heap.size:=⟨(Below.refl _ _).alloc (Nat.le_refl _) _,by simp⟩
 have A:=Hd (sets_any (w.alloc (.cells (evC e) 39)) e)
 have e0:=fun j=>cell_at (w:=w) (evC e) 39 j rfl
 obtain ⟨s,hs⟩:∃ s,s=setsE e:=⟨_,rfl⟩
 rw [← hs] at A ⊢;replace hs:=Hd hs;obtain ⟨kind,cpu,id,m,n⟩:=e
 unfold evC at A e0 hb0 hB0 ⊢
 dsimp only at A e0 hb0 hB0 ⊢;have c0:=e0 0;have c1:=e0 1;have c2:=e0 2;have c3:=e0 3;have c4:=e0 4
 try dsimp only at c0 c1 c2 c3 c4
 clear e0;replace hb0:=Hd hb0;replace hB:=Hd hB;replace hO:=Hd hO;replace h2:=Hd h2
 obtain ⟨v2b,v2n,v2c,rfl⟩:∃ b n c,v2=.slice b n c:=by
  rcases h2.out with ⟨-,h⟩ | ⟨_,_,-,h,-⟩
  ·exact ⟨_,_,_,h⟩
  ·exact ⟨_,_,_,h⟩
 cases s with
 | true =>
  go_enter func108,ntmps108
  go_wp2_with fail;refine A.out.mono ?_;rintro e w1 ⟨rfl,S⟩;clear A c0 c1 c2 c3 c4
  have hb:=hb0.out.trans (S.mono hB0)
  go_wp2;go_end0
  refine ⟨rfl,⟨out,hB.out.ch (Ch.off hb) (fun h=>h),?_⟩,(Ch.off hb).mono fun _ _ h=>h.elim⟩
  exact (RowAt.ch hO.out (Ch.off hb) (fun _ _ h=>h)).mono fun _ h=>.inl h
 | false =>
  go_enter func108,ntmps108
  go_wp2_with fail;refine A.out.mono ?_;rintro e w1 ⟨rfl,S⟩;clear A c0 c1 c2 c3 c4
  have hb:=Hd (hb0.out.trans (S.mono hB0))
  have hO1:=Hd (RowAt.ch hO.out (Ch.off hb.out) (fun _ _ h=>h))
  have hB1:=Hd (hB.out.ch (Ch.off hb.out) (fun h=>h))
  have cB:=hB1.out.cell 0;have fB:=hB1.out.frozen 0
  have h2':l2≠[]→∃ b off,v2b=some ⟨b,off,none⟩∧∀ j u,(fives recC l2)[j]? = some u→w1.cell? ⟨b,off+j,none⟩=some u:=by
   intro hn
   rcases h2.out with ⟨h,-⟩ | ⟨g,r,rfl,h,hk⟩
   ·exact absurd h hn
   ·cases h
    refine ⟨g,0,rfl,fun j u hj=>?_⟩
    rw [Nat.zero_add,(hk.ch (Ch.off hb.out) (fun h=>h)).cell,← Array.getElem?_toList]
    simpa [fives] using hj
  have h2n:v2n=l2.length:=by
   rcases h2.out with ⟨rfl,h⟩ | ⟨g,r,rfl,h,hk⟩
   ·cases h;rfl
   ·cases h;rfl
  subst h2n;replace h2':=Hd h2'
  try dsimp only at cB
  go_wp2_with (at_builtin;refine wpList_app5 recC_size recC_one info43 rfl underlying40 rfl _ _ rfl rfl rfl hO1.out hl h2'.out ?_)
  intro v' w2 hr hc
  have hB2:=Hd (hB1.out.ch hc hF)
  obtain ⟨N,hN⟩:∃ N,N=l.length+l2.length:=⟨_,rfl⟩
  rw [← hN] at hr;replace hN:=Hd hN
  obtain ⟨vb,vc,rfl⟩:=RowAt.form hr
  have hr:=Hd hr;have hc:=Hd hc;have c2:=hB2.out.cell 0;have f2:=hB2.out.frozen 0
  try dsimp only at c2
  clear cB fB;go_wp2;go_end0
  have hC:=(Ch.refl (fun b=>b=B) w2).put 0 (.slice vb N vc)
  have hs1:=hb.out.size;have hs2:=hc.out.size;have hs3:=hC.size;have hBw:=hB.out.lt
  refine ⟨rfl,⟨_,hB2.out.set 0 _,?_⟩,?_⟩
  ·show RowAt _ _ 43 5 _ (l++l2).length (fives recC (l++l2))
   rw [List.length_append,← hN.out];refine (RowAt.ch hr.out hC ?_).mono ?_
   ·rintro b (hb | hb) rfl
    ·exact hF hb
    ·omega
   ·rintro b (hb | hb)
    ·exact .inl hb
    ·refine .inr ⟨by omega,by omega⟩
  ·exact ((Ch.off hb.out).mono (G:=fun b=>b=B∨F b) (fun _ _ h=>h.elim)).then ((hc.out.mono (G:=fun b=>b=B∨F b) (fun _ _ h=>.inr h)).then hC (fun i _ h=>.inl h)) (fun i _ h=>h)
end
section
open Go.Proofs.YtiocbpabbjgkhaaGreatDoor.NumD
structure DoneSt (W:World) (B:Nat) (w:World) (F' Fo:Nat→Prop) (out:Value) (l:List Rec):Prop where
 box:Blk w B #[out] 40
 row:RecL w Fo out l
 lt:∀ b,Fo b→W.heap.size≤b∧b < w.heap.size
 ap:∀ b,Fo b→¬ F' b
 kn:∀ b,F' b→W.heap.size≤b
 ch:Ch (fun b=>b=B) W w
theorem DoneSt.next {W wr wa w5:World} {B p:Nat} {F' Fo F4:Nat→Prop} {out:Value} {l:List Rec} {k1:K} (h:DoneSt W B wr F' Fo out l) (h2:2 < B) (hBW:B < W.heap.size) (ha:Below wr.heap.size wr wa) (L:Lk wa F' w5 F4) (K1:KAt w5 F4 p f k1) :
  (Blk w5 B #[out] 40∧RecL w5 Fo out l∧¬ Fo B∧∀ b,Fo b→b < w5.heap.size)∧∀ (w6:World) (out':Value) (l':List Rec),Blk w6 B #[out'] 40→RecL w6 (Plus w5 w6 Fo) out' l'→Ch (fun b=>b=B∨Fo b) w5 w6→KAt w6 F4 p f k1∧DoneSt W B w6 F4 (Plus w5 w6 Fo) out' l':=by
 have s1:=h.ch.size;have s2:=ha.size;have s3:=L.1.size
 have hFB:¬ F' B:=fun e=>by have:=h.kn B e;omega
 have hOB:¬ Fo B:=fun e=>by have:=(h.lt B e).1;omega
 have C1:Ch F' wr w5:=(Ch.of_below ha).then L.1 (fun _ _ e=>e)
 have hF4:∀ b,F4 b→W.heap.size≤b∧¬ Fo b:=fun b hb=>(L.2 b hb).elim (fun e=>⟨h.kn b e,fun o=>h.ap b o e⟩) (fun e=>⟨by omega,fun o=>by have:=(h.lt b o).2;omega⟩)
 refine ⟨⟨h.box.ch C1 hFB,RowAt.ch h.row C1 h.ap,hOB,fun b hb=>by have:=(h.lt b hb).2;omega⟩,fun w6 out' l' hb hr hc=>?_⟩
 have s4:=hc.size
 refine ⟨K1.ch hc (fun b hb e=>e.elim (fun e=>by have:=(hF4 b hb).1;omega) (hF4 b hb).2) (fun e=>e.elim (fun e=>by omega) (fun e=>by have:=(h.lt 2 e).1;omega)),hb,hr,?_,?_,fun b hb=>(hF4 b hb).1,?_⟩
 ·rintro b (e | e)
  ·have:=h.lt b e;omega
  ·omega
 ·rintro b (e | e) hb4
  ·exact (hF4 b hb4).2 e
  ·have:=K1.ltF b hb4
   omega
 ·refine (h.ch.then (C1.mono (fun _ _ e=>e)) (fun i hi e=>?_)).then hc (fun i hi e=>?_)
  ·have:=h.kn i e;omega
  ·exact e.elim id (fun e=>by have:=(h.lt i e).1;omega)
theorem RecsAt.few {v:Value} {l:List Rec} (h:RecsAt w v l):l.length≤1:=by
 rcases h with ⟨rfl,-⟩ | ⟨_,_,rfl,-⟩ <;> simp
theorem done_any (W:World) (hT:Tab W) (n:Nat) (hn1:1≤n) (hn64:n≤64) (a:Option Addr) (len cap:Nat) (hlen:len≤400) {E:Nat→Ev} (hE:EvsIn W a len E) (B:Nat) (h2:2 < B) (hB:Blk W B #[.slice none 0 0] 40) (hEB:0 < len→∀ b off,a=some ⟨b,off,none⟩→b≠B) :
  Calls prog 107 #[.int .i64 n,.slice a len cap,.func (.func 108) #[] #[.pointer (some ⟨B,0,none⟩)]] W fun e w'=>(∃ p,e=.returned (.tuple #[.pointer (some ⟨p,0,none⟩),.int .i64 0]))∧∃ F' Fo out,DoneSt W B w' F' Fo out (trace (kNew n) (evL E len))∧(trace (kNew n) (evL E len)).length≤len:=by
 have N:=Hd (new_any W n hn1 hn64 hT hT.two);have hBW:=Hd hB.lt;replace hE:=Hd hE;replace hEB:=Hd hEB;replace hB:=Hd hB;clear hT
 go_enter func107,ntmps107
 go_wp2_with fail;refine N.out.mono ?_;rintro e w1 ⟨⟨p,f,rfl,HK⟩,hb0⟩;clear N
 have HD:DoneSt W B w1 (Plus W w1 (fun _=>False)) (fun _=>False) (.slice none 0 0) (trace (kNew n) (evL E 0)) :=
  ⟨hB.out.ch (Ch.off hb0) (fun h=>h),RowAt.nil _ _ _ _,fun _ h=>h.elim,fun _ h=>h.elim,fun b h=>h.elim (fun h=>h.elim) (fun h=>h.1),(Ch.off hb0).mono (fun _ _ h=>h.elim)⟩
 replace HK:=Hd HK;replace HD:=Hd HD;clear hb0;go_wp2
 go_loopw [22,11] (fun iv _ wr=>∃ (i:Nat) (F' Fo:Nat→Prop) (out:Value),iv=.int .i64 i∧i≤len∧Hid (KAt wr F' p f (kPlay (kNew n) E i))∧Hid (DoneSt W B wr F' Fo out (trace (kNew n) (evL E i))∧(trace (kNew n) (evL E i)).length≤i)) (fun iv _ _=>len - (intOf iv).toNat)
 case atStart=>exact ⟨0,_,_,_,rfl,by omega,HK,Hd ⟨HD.out,Nat.le_refl _⟩⟩
 case round =>
  clear HK HD;obtain ⟨i,F',Fo,out,rfl,hi,HK,HD⟩:=hrel
  by_cases hlt:i < len
  ·obtain ⟨b,off,rfl⟩:=hE.out.base (by omega)
   have hbB:b≠B:=hEB.out (by omega) b off rfl
   have cE:∀ j v,(evC (E i))[j]? = some v→wr.cell? ⟨b,off+i*5+j,none⟩=some v:=fun j v hj=>keepch HD.out.1.ch (hE.out.cell b off rfl i hlt j v hj) hbB
   have c0:=cE 0 _ rfl
   have c1:=cE 1 _ rfl
   have c2:=cE 2 _ rfl
   have c3:=cE 3 _ rfl
   have c4:=cE 4 _ rfl
   rw [Nat.add_zero] at c0
   obtain ⟨hm,-,-,-,hn⟩:=hE.out.ok i hlt
   have hst:Hid (kPlay (kNew n) E (i+1)=(kDo (kPlay (kNew n) E i) (E i)).1):=Hd rfl
   have htr:=Hd (trace_succ (kNew n) E i)
   have ok:=Hd (kPlay_ok (kNew_ok n) E i).1
   have HX:=Hd (Bx.new HK.out (evC (E i)) 39)
   have D1:=((HK.out.alloc (.cells (evC (E i)) 39)).drewN 1).kdo' ok.out (E i) hm hn
   obtain ⟨k',hk'⟩:∃ k',k'=(kDo (kPlay (kNew n) E i) (E i)).1:=⟨_,rfl⟩
   obtain ⟨rs,hrs⟩:∃ rs,rs=(kDo (kPlay (kNew n) E i) (E i)).2:=⟨_,rfl⟩
   rw [← hk'] at hst D1;rw [← hrs] at htr D1;clear hk' hrs cE hm hn
   obtain ⟨ev,hev⟩:∃ ev,ev=E i:=⟨_,rfl⟩
   rw [← hev] at c0 c1 c2 c3 c4 D1 HX htr;replace hev:=Hd hev
   have T:=fun (w5:World) (F:Nat→Prop) (out:Value) (l:List Rec) hB hF hlt hO hl (v2:Value) h2=>Hd (tell_any w5 (F:=F) (B:=B) (out:=out) (l:=l) (l2:=rs) hB hF hlt hO hl (v2:=v2) h2 ev)
   obtain ⟨kind,ecpu,id,m,nn⟩:=ev;unfold evC at D1 HX T c0 c1 c2 c3 c4;dsimp only at D1 HX T
   change wr.cell? _=some (.int .i64 kind) at c0
   change wr.cell? _=some (.int .i64 ecpu) at c1
   change wr.cell? _=some (.int .i64 id) at c2
   change wr.cell? _=some (.int .u64 m) at c3
   change wr.cell? _=some (.int .i64 nn) at c4
   replace D1:=Hd D1
   obtain ⟨wa,hwa⟩:∃ wa,wa=wr.alloc (.cells #[.int .i64 kind,.int .i64 ecpu,.int .i64 id,.int .u64 m,.int .i64 nn] 39):=⟨_,rfl⟩
   have hba:Hid (Below wr.heap.size wr wa):=Hd (by rw [hwa];exact (Below.refl _ _).alloc (Nat.le_refl _) _)
   go_wp2_with fail;rw [← hwa]
   have e0:wa.cell? ⟨wr.heap.size,0,none⟩=some (.int .i64 kind):=by rw [hwa];exact HX.out.cell 0
   have e1:wa.cell? ⟨wr.heap.size,1,none⟩=some (.int .i64 ecpu):=by rw [hwa];exact HX.out.cell 1
   have e2:wa.cell? ⟨wr.heap.size,2,none⟩=some (.int .i64 id):=by rw [hwa];exact HX.out.cell 2
   have e3:wa.cell? ⟨wr.heap.size,3,none⟩=some (.int .u64 m):=by rw [hwa];exact HX.out.cell 3
   have e4:wa.cell? ⟨wr.heap.size,4,none⟩=some (.int .i64 nn):=by rw [hwa];exact HX.out.cell 4
   rw [← hwa] at D1 HX;replace hwa:=Hd hwa;clear c0 c1 c2 c3 c4
   refine wp_region_noPanic ?_
   refine wp_region_held_drew (S:=fun w'=>w'.cell? ⟨wr.heap.size,0,none⟩=some (.int .i64 kind)∧w'.cell? ⟨wr.heap.size,1,none⟩=some (.int .i64 ecpu)∧w'.cell? ⟨wr.heap.size,2,none⟩=some (.int .i64 id)∧w'.cell? ⟨wr.heap.size,3,none⟩=some (.int .u64 m)∧w'.cell? ⟨wr.heap.size,4,none⟩=some (.int .i64 nn)) (by kernel_rfl) ⟨e0,e1,e2,e3,e4⟩ (fun hHeld=>?_)
   clear e0 e1 e2 e3 e4
   refine wpAnyH_take (i:=0) (oi:=?_) (v:=?_) ?_ (by kernel_rfl) (by kernel_rfl) (by kernel_rfl) ?_ (Or.inl ⟨?_,?_⟩) hHeld ?_
   rotate_left 2
   ·simp only [sD,sE,sF];rfl
   ·exact fun _ _ _ h=>h
   ·rfl
   ·intro w' hSw;(try dsimp only at hSw);go_simp;(try with_reducible rfl)
   (try simp only [Act.put,sA,sB,sC])
   refine wpAnyH_take (i:=1) (oi:=?_) (v:=?_) ?_ (by kernel_rfl) (by kernel_rfl) (by kernel_rfl) ?_ (Or.inl ⟨?_,?_⟩) hHeld ?_
   rotate_left 2
   ·simp only [sD,sE,sF];rfl
   ·exact fun _ _ _ h=>h
   ·rfl
   ·intro w' hSw;(try dsimp only at hSw);go_simp;(try with_reducible rfl)
   (try simp only [Act.put,sA,sB,sC])
   refine wpAnyH_take (i:=2) (oi:=?_) (v:=?_) ?_ (by kernel_rfl) (by kernel_rfl) (by kernel_rfl) ?_ (Or.inl ⟨?_,?_⟩) hHeld ?_
   rotate_left 2
   ·simp only [sD,sE,sF];rfl
   ·exact fun _ _ _ h=>h
   ·rfl
   ·intro w' hSw;(try dsimp only at hSw);go_simp;(try with_reducible rfl)
   (try simp only [Act.put,sA,sB,sC])
   refine wpAnyH_take (i:=3) (oi:=?_) (v:=?_) ?_ (by kernel_rfl) (by kernel_rfl) (by kernel_rfl) ?_ (Or.inl ⟨?_,?_⟩) hHeld ?_
   rotate_left 2
   ·simp only [sD,sE,sF];rfl
   ·exact fun _ _ _ h=>h
   ·rfl
   ·intro w' hSw;(try dsimp only at hSw);go_simp;(try with_reducible rfl)
   (try simp only [Act.put,sA,sB,sC])
   refine wpAnyH_ready (rs:=[4]) (by kernel_rfl) (by simp) ?_
   refine AllReadyH.cons (o:=?_) ?_ (fun K hK=>?_) AllReadyH.nil
   rotate_left 1
   ·simp only [sD,sE,sF];rfl
   go_simp
   (refine D1.out.mono ?_;rintro e w5 ⟨v,rfl,hv⟩;have hv1:=hv;obtain ⟨F4,L1,K1,-⟩:=hv1;have HX5:=((HX.out.drewN 1).lk L1).blk)
   refine hK.out _ _ (show w5.cell? ⟨wr.heap.size,0,none⟩=some (.int .i64 kind)∧w5.cell? ⟨wr.heap.size,1,none⟩=some (.int .i64 ecpu)∧w5.cell? ⟨wr.heap.size,2,none⟩=some (.int .i64 id)∧w5.cell? ⟨wr.heap.size,3,none⟩=some (.int .u64 m)∧w5.cell? ⟨wr.heap.size,4,none⟩=some (.int .i64 nn) from ⟨HX5.cell 0,HX5.cell 1,HX5.cell 2,HX5.cell 3,HX5.cell 4⟩) (fun hHeld=>?_)
   clear hK K
   (try simp only [Act.put,sA,sB,sC])
   obtain ⟨⟨b5,r5,n5,l5⟩,fin⟩:=HD.out.1.next h2 hBW.out hba.out.drew L1 K1
   have nX:¬ (wr.heap.size=B∨Fo wr.heap.size):=fun e=>e.elim (fun e=>by have:=HD.out.1.ch.size;have:=hBW.out;omega) (fun e=>by have:=(HD.out.1.lt _ e).2;omega)
   have T1:=T w5 Fo out (trace (kNew n) (evL E i)) b5 n5 l5 r5 (by have:=hv.at.few;have:=HD.out.2;omega) v hv.at
   have few:=Hd hv.at.few;replace fin:=Hd fin;clear T b5 r5 n5 l5 HX D1
   refine wpAnyH_ready (rs:=[5]) (by kernel_rfl) (by simp) ?_
   refine AllReadyH.cons (o:=?_) ?_ (fun K hK=>?_) AllReadyH.nil
   rotate_left 1
   ·simp only [sD,sE,sF];rfl
   go_simp
   (refine T1.out.mono ?_;rintro e w6 ⟨rfl,⟨out',hB6,hR6⟩,hC6⟩;have HX6:=HX5.ch hC6 nX)
   refine hK.out _ _ ⟨HX6.cell 0,HX6.cell 1,HX6.cell 2,HX6.cell 3,HX6.cell 4⟩ (fun hHeld=>?_)
   clear hK K
   (try simp only [Act.put,sA,sB,sC])
   refine wpAnyH_done (by kernel_rfl) (NoPanic.normal ?_) _
   obtain ⟨K6,D6⟩:=fin.out w6 out' _ hB6 hR6 hC6
   replace K6:=Hd K6;replace D6:=Hd D6;clear hB6 hR6 hC6 fin T1 hHeld hv L1 K1 HX5 HX6 nX
   have hlen2:(trace (kNew n) (evL E i)++if setsE ⟨kind,ecpu,id,m,nn⟩ then [] else rs).length≤i+1:=by
    have h1:=few.out;have h2:=HD.out.2;rw [List.length_append]
    split
    ·simp only [List.length_nil];omega
    ·omega
   replace hlen2:=Hd hlen2;go_wp2;go_roundw
   case rel=>exact ⟨i+1,F4,_,_,by go_num,hlt,by rw [hst.out];exact K6,by rw [htr.out];exact Hd ⟨D6.out,hlen2.out⟩⟩
   case measure=>simp [intOf];omega
  ·have e:i=len:=by omega
   subst e;go_wp2;go_returns
   exact ⟨⟨_,rfl⟩,_,_,_,HD.out⟩
theorem trace_any (W:World) (hT:Tab W) (n:Nat) (hn1:1≤n) (hn64:n≤64) (a:Option Addr) (len cap:Nat) (hlen:len≤400) {E:Nat→Ev} (hE:EvsIn W a len E) :
  Calls prog 45 #[.int .i64 n,.slice a len cap] W fun e w'=>(∃ v Fo,e=.returned (.tuple #[v,.int .i64 0])∧RecL w' Fo v (trace (kNew n) (evL E len))∧(∀ b,Fo b→W.heap.size≤b∧b < w'.heap.size)∧(trace (kNew n) (evL E len)).length≤len)∧Below W.heap.size W w':=by
 have hb:Below W.heap.size W (W.alloc (.cells #[.slice none 0 0] 40)):=(Below.refl _ _).alloc (Nat.le_refl _) _
 have D:=Hd (done_any (W.alloc (.cells #[.slice none 0 0] 40)) (hT.below' (hb.mono (Nat.le_refl _))) n hn1 hn64 a len cap hlen (hE.below hb) W.heap.size hT.two (Blk.new _ _ _) (by
  rintro hp b off rfl rfl
  have:=World.block_lt_of_cell? W _ (hE.cell _ off rfl 0 hp 0 _ rfl)
  exact Nat.lt_irrefl _ this))
 have hs:Hid ((W.alloc (.cells #[.slice none 0 0] 40)).heap.size=W.heap.size+1):=Hd (by simp)
 replace hb:=Hd hb;clear hE hT hlen
 obtain ⟨l,hl⟩:∃ l,l=trace (kNew n) (evL E len):=⟨_,rfl⟩
 rw [← hl] at D ⊢;replace hl:=Hd hl
 go_enter func45,ntmps45
 go_wp2_with fail;refine D.out.mono ?_;rintro e w1 ⟨⟨p,rfl⟩,F',Fo,out,D1,hll⟩;clear D;have D2:=Hd D1;replace hll:=Hd hll
 obtain ⟨vb,vc,rfl⟩:=RowAt.form D1.row
 have c0:=D1.box.cell 0
 try dsimp only at c0
 clear D1;go_wp2;go_returns
 refine ⟨⟨_,Fo,rfl,D2.out.row,fun b h=>?_,hll.out⟩,?_⟩
 ·have:=D2.out.lt b h
  have:=hs.out
  omega
 ·refine hb.out.trans (D2.out.ch.below ?_ ?_)
  ·rw [hs.out];omega
  ·intro k hk e
   omega
end
section
open Go.Proofs.YtiocbpabbjgkhaaGreatDoor.NumD
theorem RecL.cells {v:Value} {l:List Rec} (h:RecL w F v l):∃ a cap,v=.slice a l.length cap∧∀ i r,l[i]? = some r→∃ g,a=some ⟨g,0,none⟩∧∀ j u,(recC r)[j]? = some u→w.cell? ⟨g,i*5+j,none⟩=some u:=by
 by_cases hn:0 < l.length
 ·obtain ⟨g,cap,h1,-,-,-,-,h6,-⟩:=row5_at recC_size h hn
  exact ⟨_,cap,h1,fun i r hi=>⟨g,rfl,h6 i r hi⟩⟩
 ·obtain ⟨a,cap,rfl⟩:=RowAt.form h
  refine ⟨a,cap,rfl,fun i r hi=>?_⟩
  have:=(List.getElem?_eq_some_iff.1 hi).1
  omega
theorem differ_same (w:World) {F G:Nat→Prop} {v u:Value} {l:List Rec} (h:RecL w F v l) (g:RecL w G u l) (hl:l.length≤1000):Calls prog 47 #[v,u] w fun e w'=>e=.returned (.int .i64 (-1))∧Below w.heap.size w w':=by
 obtain ⟨a,ca,rfl,h1⟩:=h.cells;obtain ⟨b,cb,rfl,g1⟩:=g.cells
 obtain ⟨n,hn⟩:∃ n,n=l.length:=⟨_,rfl⟩
 rw [← hn] at hl ⊢;replace hn:=Hd hn;replace h1:=Hd h1;replace g1:=Hd g1;clear h g
 go_enter func47,ntmps47
 go_wp2
 go_loopw [11,5] (fun iv _ wr=>∃ (i:Nat),iv=.int .i64 i∧i≤n∧Hid (Below w.heap.size w wr)) (fun iv _ _=>n - (intOf iv).toNat)
 case atStart=>exact ⟨0,rfl,by omega,Hd (Below.refl _ _)⟩
 case round =>
  obtain ⟨i,rfl,hi,hb⟩:=hrel
  by_cases hlt:i < n
  ·have hil:i < l.length:=by rw [← hn.out];exact hlt
   obtain ⟨r,hr⟩:∃ r,l[i]? = some r:=⟨_,List.getElem?_eq_getElem hil⟩
   obtain ⟨p,rfl,h2⟩:=h1.out i r hr
   obtain ⟨q,rfl,g2⟩:=g1.out i r hr
   obtain ⟨kind,cpu,id,m,why⟩:=r
   have a0:wr.cell? ⟨p,i*5,none⟩=some (.int .i64 kind):=keepcell hb.out (h2 0 _ rfl)
   have a1:wr.cell? ⟨p,i*5+1,none⟩=some (.int .i64 cpu):=keepcell hb.out (h2 1 _ rfl)
   have a2:wr.cell? ⟨p,i*5+2,none⟩=some (.int .i64 id):=keepcell hb.out (h2 2 _ rfl)
   have a3:wr.cell? ⟨p,i*5+3,none⟩=some (.int .i64 m):=keepcell hb.out (h2 3 _ rfl)
   have a4:wr.cell? ⟨p,i*5+4,none⟩=some (.int .i64 why):=keepcell hb.out (h2 4 _ rfl)
   have b0:wr.cell? ⟨q,i*5,none⟩=some (.int .i64 kind):=keepcell hb.out (g2 0 _ rfl)
   have b1:wr.cell? ⟨q,i*5+1,none⟩=some (.int .i64 cpu):=keepcell hb.out (g2 1 _ rfl)
   have b2:wr.cell? ⟨q,i*5+2,none⟩=some (.int .i64 id):=keepcell hb.out (g2 2 _ rfl)
   have b3:wr.cell? ⟨q,i*5+3,none⟩=some (.int .i64 m):=keepcell hb.out (g2 3 _ rfl)
   have b4:wr.cell? ⟨q,i*5+4,none⟩=some (.int .i64 why):=keepcell hb.out (g2 4 _ rfl)
   clear h2 g2 hr hil;go_wp2_with fail;go_quiet (fail);go_wp2;go_roundw
   case rel=>exact ⟨i+1,by go_num,hlt,Hd (hb.out.trans ((belowN wr nq).mono hb.out.size))⟩
   case measure=>simp [intOf];omega
  ·go_wp2
   go_returns
   exact ⟨rfl,hb.out⟩
end
section
open Go.Proofs.YtiocbpabbjgkhaaGreatDoor.NumD
theorem clone_any (w:World) {v:Value} {l:List Ev} (h:EvL w F v l) (h0:0 < l.length) (hl:l.length≤400):Calls prog 111 #[v] w fun e w'=>(∃ v',e=.returned v'∧EvL w' (New w) v' l)∧Below w.heap.size w w':=by
 obtain ⟨g,cap,rfl,hc1,hc2,hF,hlt,hcell,-⟩:=h.open h0
 unfold maxLen at hc2;replace hcell:=Hd hcell
 have hq:=Lib.run_eql_slice_nil (P:=prog) w 22 39 (some ⟨g,0,none⟩) l.length cap 0 0 underlying22
 go_enter func111,ntmps111
 have hw1:Below w.heap.size w (w.alloc (.cells #[] 39)):=(Below.refl _ _).alloc (Nat.le_refl _) _
 have hs1:(w.alloc (.cells #[] 39)).heap.size=w.heap.size+1:=by simp
 have hD:RowAt (w.alloc (.cells #[] 39)) (fun _=>False) 39 5 (.slice (some ⟨w.heap.size,0,none⟩) 0 0) ([]:List Ev).length (fives evC []):=⟨rfl,_,0,rfl,Nat.le_refl _,Nat.zero_le _,.inl ⟨rfl,fun h=>by cases h⟩⟩
 have hc:l≠[]→∃ b off,(some ⟨g,0,none⟩:Option Addr)=some ⟨b,off,none⟩∧∀ j u,(fives evC l)[j]? = some u→(w.alloc (.cells #[] 39)).cell? ⟨b,off+j,none⟩=some u:=fun _=>⟨g,0,rfl,fun j u hj=>by rw [Nat.zero_add];exact keepcell hw1 (hcell.out j u hj)⟩
 replace hw1:=Hd hw1;replace hs1:=Hd hs1;replace hD:=Hd hD;replace hc:=Hd hc
 go_wp2_with (at_builtin;refine wpList_app5 evC_size evC_one info39 rfl underlying22 rfl _ _ rfl rfl rfl hD.out (by simp only [List.length_nil];omega) hc.out ?_)
 intro v' w2 hr hc2
 have hr:=Hd hr;have hc3:=Hd hc2
 obtain ⟨vb,vc,rfl⟩:=RowAt.form hr.out
 go_wp2;go_returns
 refine ⟨⟨_,rfl,?_⟩,hw1.out.trans (hc3.out.isBelow.mono (by have:=hs1.out;omega))⟩
 refine RowAt.mono hr.out ?_
 rintro b (e | e)
 ·exact e.elim
 ·have:=hs1.out
  show w.heap.size≤b
  omega
theorem index_first (w:World) {v:Value} {l:List Ev} (h:EvL w F v l) {e:Ev} (he:l[0]? = some e) (hs:setsE e=true) (hl:l.length≤400):Calls prog 183 #[v,.func (.func 109) #[] #[]] w fun r w'=>r=.returned (.int .i64 0)∧Below w.heap.size w w':=by
 have h0:0 < l.length:=(List.getElem?_eq_some_iff.1 he).1
 obtain ⟨g,cap,rfl,hc1,hc2,hF,hlt,hcell,-⟩:=row5_at evC_size h h0
 obtain ⟨n,hn⟩:∃ n,n=l.length:=⟨_,rfl⟩
 rw [← hn] at hc1 h0 hl ⊢
 have c:=hcell 0 e he
 have A:=sets_any w e
 rw [hs] at A;clear hcell hn h hs he hF;unfold maxLen at hc2;obtain ⟨kind,cpu,id,m,nn⟩:=e;unfold evC at A c
 have c0:w.cell? ⟨g,0,none⟩=some (.int .i64 kind):=c 0 _ rfl
 have c1:w.cell? ⟨g,1,none⟩=some (.int .i64 cpu):=c 1 _ rfl
 have c2:w.cell? ⟨g,2,none⟩=some (.int .i64 id):=c 2 _ rfl
 have c3:w.cell? ⟨g,3,none⟩=some (.int .u64 m):=c 3 _ rfl
 have c4:w.cell? ⟨g,4,none⟩=some (.int .i64 nn):=c 4 _ rfl
 clear c;replace A:=Hd A
 go_enter func183,ntmps183
 go_wp2_with fail
 refine wp_loop_rounds 1 ?_
 rw [rounds_succ];go_wp2_with fail;refine A.out.mono ?_;rintro e w1 ⟨rfl,S⟩;go_wp2;go_returns
 exact ⟨rfl,S⟩
def keptTo (l:List Ev) (j:Nat):List Ev:=(l.take j).filter fun e=>!setsE e
theorem keptTo_succ (l:List Ev) (j:Nat) (e:Ev) (h:l[j]? = some e):keptTo l (j+1)=if setsE e then keptTo l j else keptTo l j++[e]:=by
 unfold keptTo;rw [List.take_add_one,h,Option.toList_some,List.filter_append]
 cases hs:setsE e <;> simp [hs]
theorem keptTo_len (l:List Ev) (j:Nat):(keptTo l j).length≤j:=Nat.le_trans (List.length_filter_le _ _) (by rw [List.length_take];omega)
def Stays (w:World) (g:Nat) (k:List Ev):Prop:=∃ cs:Array Value,Blk w g cs 39∧∀ x r,k[x]? = some r→∀ i u,(evC r)[i]? = some u→cs[x*5+i]? = some u
theorem keptTo_lt (l:List Ev) (e:Ev) (he:l[0]? = some e) (hs:setsE e=true):∀ j,(keptTo l (j+1)).length≤j
 | 0=>by rw [keptTo_succ l 0 e he,hs];exact Nat.le_refl 0
 | j+1=>by
  have ih:=keptTo_lt l e he hs j
  cases hx:l[j+1]? with
  | none =>
   have e1:l.length≤j+1:=by simpa using hx
   unfold keptTo at ih ⊢
   rw [List.take_of_length_le (by omega)] at ih ⊢
   omega
  | some x =>
   rw [keptTo_succ l (j+1) x hx]
   split
   ·omega
   ·rw [List.length_append]
    simp only [List.length_cons,List.length_nil]
    omega
theorem five {g:Nat} {cs:Array Value} {t:TypeId} (h:Blk w g cs t) (o:Nat) (ho:o+5≤cs.size) (a0 a1 a2 a3 a4:Value) :
  ∃ u0 u1 u2 u3 u4,(w.cell? ⟨g,o,none⟩=some u0∧(w.setCell ⟨g,o,none⟩ a0).cell? ⟨g,o+1,none⟩=some u1∧((w.setCell ⟨g,o,none⟩ a0).setCell ⟨g,o+1,none⟩ a1).cell? ⟨g,o+2,none⟩=some u2∧(((w.setCell ⟨g,o,none⟩ a0).setCell ⟨g,o+1,none⟩ a1).setCell ⟨g,o+2,none⟩ a2).cell? ⟨g,o+3,none⟩=some u3∧((((w.setCell ⟨g,o,none⟩ a0).setCell ⟨g,o+1,none⟩ a1).setCell ⟨g,o+2,none⟩ a2).setCell ⟨g,o+3,none⟩ a3).cell? ⟨g,o+4,none⟩=some u4) ∧
  (w.frozen? ⟨g,o,none⟩=false∧(w.setCell ⟨g,o,none⟩ a0).frozen? ⟨g,o+1,none⟩=false∧((w.setCell ⟨g,o,none⟩ a0).setCell ⟨g,o+1,none⟩ a1).frozen? ⟨g,o+2,none⟩=false∧(((w.setCell ⟨g,o,none⟩ a0).setCell ⟨g,o+1,none⟩ a1).setCell ⟨g,o+2,none⟩ a2).frozen? ⟨g,o+3,none⟩=false∧((((w.setCell ⟨g,o,none⟩ a0).setCell ⟨g,o+1,none⟩ a1).setCell ⟨g,o+2,none⟩ a2).setCell ⟨g,o+3,none⟩ a3).frozen? ⟨g,o+4,none⟩=false) ∧
  Blk (((((w.setCell ⟨g,o,none⟩ a0).setCell ⟨g,o+1,none⟩ a1).setCell ⟨g,o+2,none⟩ a2).setCell ⟨g,o+3,none⟩ a3).setCell ⟨g,o+4,none⟩ a4) g (((((cs.setIfInBounds o a0).setIfInBounds (o+1) a1).setIfInBounds (o+2) a2).setIfInBounds (o+3) a3).setIfInBounds (o+4) a4) t∧Ch (fun b=>b=g) w (((((w.setCell ⟨g,o,none⟩ a0).setCell ⟨g,o+1,none⟩ a1).setCell ⟨g,o+2,none⟩ a2).setCell ⟨g,o+3,none⟩ a3).setCell ⟨g,o+4,none⟩ a4):=by
 have h1:=h.set o a0
 have h2:=h1.set (o+1) a1
 have h3:=h2.set (o+2) a2
 have h4:=h3.set (o+3) a3
 have h5:=h4.set (o+4) a4
 have get:∀ {v:World} {c:Array Value} (x:Nat),Blk v g c t→x < c.size→∃ u,v.cell? ⟨g,x,none⟩=some u:=fun x hb hx=>⟨_,(hb.cell x).trans (Array.getElem?_eq_getElem hx)⟩
 obtain ⟨u0,k0⟩:=get o h (by omega)
 obtain ⟨u1,k1⟩:=get (o+1) h1 (by simp;omega)
 obtain ⟨u2,k2⟩:=get (o+2) h2 (by simp;omega)
 obtain ⟨u3,k3⟩:=get (o+3) h3 (by simp;omega)
 obtain ⟨u4,k4⟩:=get (o+4) h4 (by simp;omega)
 exact ⟨u0,u1,u2,u3,u4,⟨k0,k1,k2,k3,k4⟩,⟨h.frozen _,h1.frozen _,h2.frozen _,h3.frozen _,h4.frozen _⟩,h5,(((((Ch.refl _ w).put o a0).put (o+1) a1).put (o+2) a2).put (o+3) a3).put (o+4) a4⟩
theorem five_far (cs:Array Value) (o k:Nat) (a0 a1 a2 a3 a4:Value) (h:k < o∨o+5≤k):(((((cs.setIfInBounds o a0).setIfInBounds (o+1) a1).setIfInBounds (o+2) a2).setIfInBounds (o+3) a3).setIfInBounds (o+4) a4)[k]? = cs[k]?:=by
 rw [Array.getElem?_setIfInBounds_ne (by omega),Array.getElem?_setIfInBounds_ne (by omega),Array.getElem?_setIfInBounds_ne (by omega),Array.getElem?_setIfInBounds_ne (by omega),Array.getElem?_setIfInBounds_ne (by omega)]
theorem five_near (cs:Array Value) (o:Nat) (ho:o+5≤cs.size) (a0 a1 a2 a3 a4:Value) (y:Nat) (u:Value) (hu:(#[a0,a1,a2,a3,a4]:Array Value)[y]? = some u):(((((cs.setIfInBounds o a0).setIfInBounds (o+1) a1).setIfInBounds (o+2) a2).setIfInBounds (o+3) a3).setIfInBounds (o+4) a4)[o+y]? = some u:=by
 rcases y with _ | _ | _ | _ | _ | y
 ·cases hu
  rw [Array.getElem?_setIfInBounds_ne (by omega),Array.getElem?_setIfInBounds_ne (by omega),Array.getElem?_setIfInBounds_ne (by omega),Array.getElem?_setIfInBounds_ne (by omega),Nat.add_zero,Array.getElem?_setIfInBounds_self_of_lt (by omega)]
  rfl
 ·cases hu
  rw [Array.getElem?_setIfInBounds_ne (by omega),Array.getElem?_setIfInBounds_ne (by omega),Array.getElem?_setIfInBounds_ne (by omega),Array.getElem?_setIfInBounds_self_of_lt (by simp;omega)]
  rfl
 ·cases hu
  rw [Array.getElem?_setIfInBounds_ne (by omega),Array.getElem?_setIfInBounds_ne (by omega),Array.getElem?_setIfInBounds_self_of_lt (by simp;omega)]
  rfl
 ·cases hu
  rw [Array.getElem?_setIfInBounds_ne (by omega),Array.getElem?_setIfInBounds_self_of_lt (by simp;omega)]
  rfl
 ·cases hu
  rw [Array.getElem?_setIfInBounds_self_of_lt (by simp;omega)]
  rfl
 ·simp at hu
theorem run_clear5 {g:Nat} {cs:Array Value} (h:Blk w g cs 39) (o n c:Nat) (ho:o+n*5≤cs.size) (hn:0 < n) :
  ∃ w' cs',(∀ ty,(Builtin.clear_ #[22] ty #[.slice (some ⟨g,o,none⟩) n c]).run prog w=.ok (.tuple #[]) w')∧Blk w' g cs' 39∧cs'.size=cs.size∧(∀ x,x < o→cs'[x]? = cs[x]?)∧Ch (fun b=>b=g) w w':=by
 obtain ⟨z,hz,hz5,hz1⟩:∃ z:Value,(∀ w,(zeroValue 39).run prog w=.ok z w)∧z.cells.size=5∧∀ u∈z.cells.toList,u.oneCell'=true:=⟨.agg #[.int .i64 0,.int .i64 0,.int .i64 0,.int .u64 0,.int .i64 0],fun w=>by kernel_rfl,rfl,by intro u hu;simp [Value.cells] at hu;rcases hu with rfl | rfl | rfl <;> rfl⟩
 have hs:(Builtin.zeroCells z.cells n).toList.length=n*5:=by rw [Array.length_toList,size_zeroCells,hz5]
 have h1:∀ v∈(Builtin.zeroCells z.cells n).toList,v.oneCell'=true:=by
  intro v hv
  simp only [Builtin.zeroCells,Array.toList_map,List.mem_map] at hv
  obtain ⟨i,-,rfl⟩:=hv
  have hi:i % z.cells.size < z.cells.size:=Nat.mod_lt _ (by omega)
  rw [getElem!_pos z.cells _ hi]
  exact hz1 _ (by simp)
 have hst:=run_storeCells_at (P:=prog) g o 39 (Builtin.zeroCells z.cells n).toList 0 cs w h (by rw [hs];omega) h1
 obtain ⟨W',hW⟩:∃ W',W'=w.setRow g (cs.toList.take (o+0)++(Builtin.zeroCells z.cells n).toList++cs.toList.drop (o+0+(Builtin.zeroCells z.cells n).toList.length)).toArray:=⟨_,rfl⟩
 rw [← hW] at hst
 have hr:∀ ty,(Builtin.clear_ #[22] ty #[.slice (some ⟨g,o,none⟩) n c]).run prog w=.ok (.tuple #[]) W':=by
  intro ty
  obtain ⟨m,rfl⟩:∃ m,n=m+1:=⟨n - 1,by omega⟩
  simp [Builtin.clear_,run_underlying underlying22,hz,hst]
 refine ⟨W',_,hr,by rw [hW];exact setRow_heap w g cs _ 39 _ h,?_,fun x hx=>?_,by rw [hW];exact ch_row w g _⟩
 ·simp only [List.size_toArray,List.length_append,List.length_take,List.length_drop,Array.length_toList,hs]
  omega
 ·rw [List.getElem?_toArray,List.append_assoc,List.getElem?_append_left (by rw [List.length_take,Array.length_toList];omega),List.getElem?_take_of_lt (by omega),Array.getElem?_toList]
def Gone (w:World) (g:Nat) (l:List Ev) (j:Nat):Prop:=∃ cs:Array Value,Blk w g cs 39∧l.length*5≤cs.size∧∀ x r,(if x < (keptTo l j).length then (keptTo l j)[x]? else l[x]?)=some r→∀ i u,(evC r)[i]? = some u→cs[x*5+i]? = some u
theorem delete_any (w:World) {v:Value} {l:List Ev} (h:EvL w F v l) {e:Ev} (he:l[0]? = some e) (hs:setsE e=true) (hl:l.length≤400):Calls prog 110 #[v,.func (.func 109) #[] #[]] w fun r w'=>∃ g cap,r=.returned (.slice (some ⟨g,0,none⟩) (keptTo l l.length).length cap)∧F g∧Stays w' g (keptTo l l.length)∧Ch (fun b=>b=g) w w':=by
 have I:=Hd (index_first w h he hs hl)
 have h0:0 < l.length:=(List.getElem?_eq_some_iff.1 he).1
 obtain ⟨hx,base,cap,rfl,hnc,hcm,h5⟩:=h
 obtain ⟨g,cs,rfl,hg,hcs,ht,hF⟩:∃ g cs,base=some ⟨g,0,none⟩∧Blk w g cs 39∧cap*5≤cs.size∧cs.toList.take (l.length*5)=fives evC l∧F g:=by
  rcases h5 with ⟨h5,-⟩ | h5
  ·omega
  ·exact h5
 have G0:Gone w g l 1:=by
  refine ⟨cs,hg,by omega,fun x r hr i u hu=>?_⟩
  have e1:keptTo l 1=[]:=by rw [keptTo_succ l 0 e he,hs];rfl
  rw [e1,if_neg (by simp)] at hr;rw [← Array.getElem?_toList]
  exact take_get ht (fives_get evC_size l x r hr i u hu)
 clear ht hx hcs hg;unfold maxLen at hcm
 have k1:Hid ((keptTo l 1).length=0):=Hd (by rw [keptTo_succ l 0 e he,hs];rfl)
 obtain ⟨n,hn⟩:∃ n,n=l.length:=⟨_,rfl⟩
 rw [← hn] at hnc h0 hl I ⊢;replace hn:=Hd hn;replace G0:=Hd G0;have hk0:=Hd (keptTo_lt l e he hs);clear he hs
 go_enter func110,ntmps110
 go_wp2_with fail;refine I.out.mono ?_;rintro e w1 ⟨rfl,S⟩
 have G1:Gone w1 g l 1:=by
  obtain ⟨cs,a,b⟩:=G0.out
  exact ⟨cs,a.ch (Ch.off S) (fun h=>h),b⟩
 have HC:=Hd ((Ch.off S).mono (G:=fun b=>b=g) (fun _ _ h=>h.elim))
 replace G1:=Hd G1;clear I G0 S;go_wp2
 go_loopw [6,7,5] (fun jv _ iv wr=>∃ (j:Nat),jv=.int .i64 j∧1≤j∧j≤n∧iv=.int .i64 ((keptTo l j).length:Nat)∧Hid (Gone wr g l j)∧Hid (Ch (fun b=>b=g) w wr)) (fun jv _ _ _=>n - (intOf jv).toNat)
 case atStart=>exact ⟨1,rfl,by omega,by omega,by rw [k1.out];rfl,G1,HC⟩
 case round =>
  clear G1 HC;obtain ⟨j,rfl,hj1,hj,rfl,HG,HC⟩:=hrel
  have hkl:=keptTo_len l j
  obtain ⟨i,hi⟩:∃ i,i=(keptTo l j).length:=⟨_,rfl⟩
  rw [← hi] at hkl ⊢
  by_cases hlt:j < n
  ·obtain ⟨ev,hev⟩:∃ ev,l[j]? = some ev:=⟨_,List.getElem?_eq_getElem (by rw [← hn.out];exact hlt)⟩
   obtain ⟨cs,hB,hsz,hcell⟩:=HG.out
   have hc:=hcell j ev (by rw [if_neg (by omega)];exact hev)
   have A:=sets_any (wr.alloc (.cells (evC ev) 39)) ev
   have hst:=keptTo_succ l j ev hev
   have hX:=fun o=>cell_at (w:=wr) (evC ev) 39 o rfl
   obtain ⟨s,hse⟩:∃ s,s=setsE ev:=⟨_,rfl⟩
   rw [← hse] at A hst;replace hi:=Hd hi;replace hst:=Hd hst;replace hcell:=Hd hcell;obtain ⟨kind,cpu,id,m,nn⟩:=ev;unfold evC at A hc hX
   have c0:wr.cell? ⟨g,j*5,none⟩=some (.int .i64 kind):=(hB.cell _).trans (hc 0 _ rfl)
   have c1:wr.cell? ⟨g,j*5+1,none⟩=some (.int .i64 cpu):=(hB.cell _).trans (hc 1 _ rfl)
   have c2:wr.cell? ⟨g,j*5+2,none⟩=some (.int .i64 id):=(hB.cell _).trans (hc 2 _ rfl)
   have c3:wr.cell? ⟨g,j*5+3,none⟩=some (.int .u64 m):=(hB.cell _).trans (hc 3 _ rfl)
   have c4:wr.cell? ⟨g,j*5+4,none⟩=some (.int .i64 nn):=(hB.cell _).trans (hc 4 _ rfl)
   have x0:=hX 0;have x1:=hX 1;have x2:=hX 2;have x3:=hX 3;have x4:=hX 4;clear hc hX;replace A:=Hd A;replace hse:=Hd hse;replace hB:=Hd hB;replace hev:=Hd hev
   cases s with
   | true =>
    go_wp2_with fail;refine A.out.mono ?_;rintro e w2 ⟨rfl,S⟩;clear c0 c1 c2 c3 c4 x0 x1 x2 x3 x4
    have hb2:Below wr.heap.size wr w2:=((Below.refl _ _).alloc (Nat.le_refl _) _).trans (S.mono (by simp))
    have e1:keptTo l (j+1)=keptTo l j:=by rw [hst.out];rfl
    have HG2:Gone w2 g l (j+1):=⟨cs,hB.out.ch (Ch.off hb2) (fun h=>h),hsz,by rw [e1];exact hcell.out⟩
    have hC5:=Hd (HC.out.then ((Ch.off hb2).mono (G:=fun b=>b=g) (fun _ _ h=>h.elim)) (fun _ _ h=>h))
    have hi2:Hid ((keptTo l (j+1)).length=i):=Hd (by rw [e1,hi.out])
    replace HG2:=Hd HG2;clear S hb2 e1 A;go_wp2;go_roundw
    case rel=>exact ⟨j+1,by go_num,by omega,by omega,by rw [hi2.out],HG2,hC5⟩
    case measure=>simp [intOf];omega
   | false =>
    go_wp2_with fail;refine A.out.mono ?_;rintro e w2 ⟨rfl,S⟩;clear c0 c1 c2 c3 c4
    have y0:=keepcell S x0
    have y1:=keepcell S x1
    have y2:=keepcell S x2
    have y3:=keepcell S x3
    have y4:=keepcell S x4
    have hb2:Below wr.heap.size wr w2:=((Below.refl _ _).alloc (Nat.le_refl _) _).trans (S.mono (by simp))
    have hB2:=Hd (hB.out.ch (Ch.off hb2) (fun h=>h))
    have fr:=fun o=>hB2.out.frozen o
    clear x0 x1 x2 x3 x4;replace hb2:=Hd hb2;clear S
    obtain ⟨u0,u1,u2,u3,u4,⟨z0,z1,z2,z3,z4⟩,⟨f0,f1,f2,f3,f4⟩,hB3,hC3⟩:=five hB2.out (i*5) (by have:=hn.out;omega) (.int .i64 kind) (.int .i64 cpu) (.int .i64 id) (.int .u64 m) (.int .i64 nn)
    have hC4:=(Ch.off hb2.out).mono (G:=fun b=>b=g) (fun _ _ h=>h.elim)
    have hC5:=Hd (HC.out.then (hC4.then hC3 (fun _ _ h=>h)) (fun _ _ h=>h))
    have HG2:Gone (((((w2.setCell ⟨g,i*5,none⟩ (.int .i64 kind)).setCell ⟨g,i*5+1,none⟩ (.int .i64 cpu)).setCell ⟨g,i*5+2,none⟩ (.int .i64 id)).setCell ⟨g,i*5+3,none⟩ (.int .u64 m)).setCell ⟨g,i*5+4,none⟩ (.int .i64 nn)) g l (j+1):=by
     refine ⟨_,hB3,by simpa using hsz,fun x r hr y u hu=>?_⟩
     have hy:y < 5:=(Array.getElem?_eq_some_iff.1 hu).1
     have e1:keptTo l (j+1)=keptTo l j++[⟨kind,cpu,id,m,nn⟩]:=by rw [hst.out];rfl
     have e2:(keptTo l (j+1)).length=i+1:=by rw [e1,List.length_append,← hi.out];rfl
     rw [e2,e1] at hr
     rcases Nat.lt_trichotomy x i with hx | hx | hx
     ·rw [if_pos (by omega),List.getElem?_append_left (by rw [← hi.out];exact hx)] at hr
      rw [five_far _ _ _ _ _ _ _ _ (.inl (by omega))]
      exact hcell.out x r (by rw [if_pos (by rw [← hi.out];exact hx)];exact hr) y u hu
     ·subst hx
      rw [if_pos (by omega),List.getElem?_append_right (by rw [← hi.out];exact Nat.le_refl _),← hi.out,Nat.sub_self] at hr
      cases hr
      exact five_near _ _ (by have:=hn.out;omega) _ _ _ _ _ y u hu
     ·rw [if_neg (by omega)] at hr
      rw [five_far _ _ _ _ _ _ _ _ (.inr (by omega))]
      exact hcell.out x r (by rw [if_neg (by rw [← hi.out];omega)];exact hr) y u hu
    replace HG2:=Hd HG2;clear hB3 hC3 hC4
    have hi2:Hid ((keptTo l (j+1)).length=i+1):=Hd (by rw [hst.out,hi.out];exact List.length_append)
    go_wp2;go_roundw
    case rel=>exact ⟨j+1,by go_num,by omega,by omega,by rw [hi2.out];go_num,HG2,hC5⟩
    case measure=>simp [intOf];omega
  ·have e:j=n:=by omega
   subst e
   obtain ⟨j,rfl⟩:∃ j',j=j'+1:=⟨j - 1,by omega⟩
   have hij:=hk0.out j
   rw [← hi] at hij;obtain ⟨cs,hB,hsz,hcell⟩:=HG.out
   obtain ⟨w9,cs9,hcl,hB9,hs9,hf9,hC9⟩:=run_clear5 hB (i*5) (j+1 - i) (cap - i) (by have:=hn.out;omega) (by omega)
   have HG9:Stays w9 g (keptTo l (j+1)):=by
    refine ⟨cs9,hB9,fun x r hr y u hu=>?_⟩
    have hx:=(List.getElem?_eq_some_iff.1 hr).1
    have hy:y < 5:=(Array.getElem?_eq_some_iff.1 hu).1
    rw [hf9 _ (by omega)]
    exact hcell x r (by rw [if_pos hx];exact hr) y u hu
   replace HG9:=Hd HG9
   have HC9:=Hd (HC.out.then hC9 (fun _ _ h=>h))
   clear hB hsz hcell hB9 hs9 hf9 hC9 HG HC;replace hi:=Hd hi;go_wp2;go_returns
   exact ⟨g,cap,by rw [← hi.out];rfl,hF,HG9.out,HC9.out⟩
theorem plainE_any (w:World) {v:Value} {l:List Ev} (h:EvL w F v l) {e:Ev} (he:l[0]? = some e) (hs:setsE e=true) (hl:l.length≤400):Calls prog 46 #[v] w fun r w'=>(∃ g cap,r=.returned (.slice (some ⟨g,0,none⟩) (keptTo l l.length).length cap)∧Stays w' g (keptTo l l.length))∧Below w.heap.size w w':=by
 have h0:0 < l.length:=(List.getElem?_eq_some_iff.1 he).1
 have C:=Hd (clone_any w h h0 hl)
 obtain ⟨vb,vc,rfl⟩:=RowAt.form h
 obtain ⟨k,hk⟩:∃ k,k=keptTo l l.length:=⟨_,rfl⟩
 have D:=fun (w1:World) (v':Value) (h1:EvL w1 (New w) v' l)=>delete_any w1 h1 he hs hl
 rw [← hk] at D ⊢;generalize l.length=n at C ⊢;clear h he hs hl h0 hk
 go_enter func46,ntmps46
 go_wp2_with fail;refine C.out.mono ?_;rintro e w1 ⟨⟨v',rfl,h1⟩,hb⟩;have D1:=Hd (D w1 v' h1)
 obtain ⟨b1,c1,rfl⟩:=RowAt.form h1
 clear D h1 C;go_wp2_with fail;refine D1.out.mono ?_;rintro e w2 ⟨g,cap,rfl,hF,hS,hC⟩;clear D1;go_wp2;go_returns
 exact ⟨⟨g,cap,rfl,hS⟩,hb.trans (hC.below hb.size (fun k hk e=>by subst e;exact Nat.lt_irrefl _ (Nat.lt_of_lt_of_le hk hF)))⟩
end
section
open Go.Proofs.YtiocbpabbjgkhaaGreatDoor.NumD
theorem evL_get (E:Nat→Ev) (n i:Nat):(evL E n)[i]? = if i < n then some (E i) else none:=by
 unfold evL;rw [List.getElem?_map]
 by_cases h:i < n
 ·rw [if_pos h,List.getElem?_range h];rfl
 ·rw [if_neg h,List.getElem?_eq_none (by simp;omega)];rfl
def noEv:Ev:=⟨0,0,0,0,0⟩
theorem evL_list (l:List Ev):evL (fun i=>l.getD i noEv) l.length=l:=by
 apply List.ext_getElem?
 intro i
 rw [evL_get]
 split
 ·rename_i h
  rw [List.getD_eq_getElem?_getD,List.getElem?_eq_getElem h]
  rfl
 ·rename_i h
  rw [List.getElem?_eq_none (by omega)]
def EvOk (e:Ev):Prop:=e.mask < top64∧In64 e.kind∧In64 e.cpu∧In64 e.id∧In64 e.n
theorem evs_row {v:Value} {l:List Ev} (h:EvL w F v l) (h0:0 < l.length) (ok:∀ e∈l,EvOk e):∃ g cap,v=.slice (some ⟨g,0,none⟩) l.length cap∧EvsIn w (some ⟨g,0,none⟩) l.length (fun i=>l.getD i noEv):=by
 obtain ⟨g,cap,h1,-,-,-,-,h6,-⟩:=row5_at evC_size h h0
 refine ⟨g,cap,h1,fun _=>⟨g,0,rfl⟩,fun b off e i hi j u hu=>?_,fun i hi=>?_⟩
 ·cases e
  rw [Nat.zero_add]
  exact h6 i _ (by rw [List.getD_eq_getElem?_getD,List.getElem?_eq_getElem hi];rfl) j u hu
 ·exact ok _ (by rw [List.getD_eq_getElem?_getD,List.getElem?_eq_getElem hi];exact List.getElem_mem hi)
theorem evs_stay {g:Nat} {k:List Ev} (h:Stays w g k) (ok:∀ e∈k,EvOk e):EvsIn w (some ⟨g,0,none⟩) k.length (fun i=>k.getD i noEv):=by
 obtain ⟨cs,hB,hc⟩:=h
 refine ⟨fun _=>⟨g,0,rfl⟩,fun b off e i hi j u hu=>?_,fun i hi=>?_⟩
 ·cases e
  rw [Nat.zero_add,hB.cell]
  exact hc i _ (by rw [List.getD_eq_getElem?_getD,List.getElem?_eq_getElem hi];rfl) j u hu
 ·exact ok _ (by rw [List.getD_eq_getElem?_getD,List.getElem?_eq_getElem hi];exact List.getElem_mem hi)
theorem wpList_appE {ops:Array Oper} {rest:List Oper} {o:Oper} {A:Act} {Q:Exit→Act→World→Prop} (hgd:o.guard=none) (s x:Operand)
  (ho:o.op=.call { callee:=.builtin .append,args:=#[s,x],argTypes:=#[22,22] }) {F:Nat→Prop} {v:Value} {l l2:List Ev} {a:Option Addr} {m cap:Nat} (hs:A.eval s=v) (hx:A.eval x=.slice a m cap) (hm:l2.length=m) (h:EvL w F v l) (hl:l.length+l2.length≤100000) (ha:l2≠[]→∃ b off,a=some ⟨b,off,none⟩∧∀ j u,(fives evC l2)[j]? = some u→w.cell? ⟨b,off+j,none⟩=some u)
  (hK:∀ v' w',EvL w' (Plus w w' F) v' (l++l2)→Ch F w w'→wpList prog ops Q rest (A.put o.dst v') w'):wpList prog ops Q (o::rest) A w :=
 wpList_app5 evC_size evC_one info39 rfl underlying22 hgd s x ho hs (by rw [hx,hm]) h hl ha hK
theorem fives_inv {α:Type} {c:α→Array Value} (hc:∀ r,(c r).size=5):∀ (l:List α) (j:Nat) (u:Value),(fives c l)[j]? = some u→∃ i y r,j=i*5+y∧l[i]? = some r∧(c r)[y]? = some u
 | [],j,u,h=>by simp [fives] at h
 | a::t,j,u,h=>by
  have h:((c a).toList++fives c t)[j]? = some u:=h
  have e:(c a).toList.length=5:=by rw [Array.length_toList];exact hc a
  by_cases hj:j < 5
  ·rw [List.getElem?_append_left (by omega),Array.getElem?_toList] at h
   exact ⟨0,j,a,by omega,rfl,h⟩
  ·rw [List.getElem?_append_right (by omega),e] at h
   obtain ⟨i,y,r,h1,h2,h3⟩:=fives_inv hc t _ u h
   exact ⟨i+1,y,r,by omega,h2,h3⟩
theorem evs_src {a:Option Addr} {n:Nat} {E:Nat→Ev} (h:EvsIn w a n E):evL E n≠[]→∃ b off,a=some ⟨b,off,none⟩∧∀ j u,(fives evC (evL E n))[j]? = some u→w.cell? ⟨b,off+j,none⟩=some u:=by
 intro hn
 have h0:0 < n:=by
  rcases Nat.eq_zero_or_pos n with rfl | h
  ·exact absurd rfl hn
  ·exact h
 obtain ⟨b,off,rfl⟩:=h.base h0
 refine ⟨b,off,rfl,fun j u hj=>?_⟩
 obtain ⟨i,y,r,rfl,hr,hu⟩:=fives_inv evC_size _ _ _ hj
 rw [evL_get] at hr
 split at hr
 ·rename_i hi
  cases hr
  rw [← Nat.add_assoc]
  exact h.cell b off rfl i hi y u hu
 ·cases hr
theorem trace_both (k:K) (a b:Ev) (ha:setsE a=true) (hb:setsE b=true) (l:List Ev):trace k (a::b::l)=trace k l:=by rw [trace_cons k ha,trace_cons k hb]
theorem trace_kept (k:K) (l:List Ev):trace k (keptTo l l.length)=trace k l:=by
 unfold keptTo;rw [List.take_length]
 exact trace_plain l k
theorem wpList_box {P:Program} {ops:Array Oper} {rest:List Oper} {o:Oper} {a:Act} {Q:Exit→Act→World→Prop} (hgd:o.guard=none) (ty:TypeId) (x:Operand) (ho:o.op=.box ty x) {A v:Value} (hx:a.eval x=A) (hr:(Instr.box ty A).run P w=.ok v w')
  (h:wpList P ops Q rest (a.put o.dst v) w'):wpList P ops Q (o::rest) a w :=
 wpList_plain hgd fun _ hK=>by
  unfold Oper.wp execOp
  simp only [ho,hx,Sem.run_bind,Sem.run_pure,Result.andThen_ok,hr]
  exact hK _ _ h
theorem power_any (W:World) (hT:Tab W) (cpus:Int) (a:Option Addr) (len cap:Nat) {E:Nat→Ev} (hE:EvsIn W a len E) (p0 p1 p2:Int) (h0:In64 p0) (h1:In64 p1) (h2:In64 p2):Calls prog 6 #[.int .i64 cpus,.slice a len cap,.agg #[.int .i64 p0,.int .i64 p1,.int .i64 p2]] W fun e w'=>e=.returned (.bool true)∧Below W.heap.size W w':=by
 obtain ⟨fw,hfw⟩:∃ b,b=(decide (1≤cpus) && decide (cpus≤9) && decide (len≤300)):=⟨_,rfl⟩
 have FW:=fun w=>few_any w cpus a len cap
 simp only [← hfw] at FW
 obtain ⟨W1,hW1⟩:∃ W1,W1=W.alloc (.cells #[.int .i64 p0,.int .i64 p1,.int .i64 p2] 88):=⟨_,rfl⟩
 have hb1:Below W.heap.size W W1:=by rw [hW1];exact (Below.refl _ _).alloc (Nat.le_refl _) _
 have q0:W1.cell? ⟨W.heap.size,0,none⟩=some (.int .i64 p0):=by rw [hW1];exact cell_at _ _ 0 rfl
 have q1:W1.cell? ⟨W.heap.size,1,none⟩=some (.int .i64 p1):=by rw [hW1];exact cell_at _ _ 1 rfl
 have q2:W1.cell? ⟨W.heap.size,2,none⟩=some (.int .i64 p2):=by rw [hW1];exact cell_at _ _ 2 rfl
 have hbx:(Instr.box 88 (.agg #[.int .i64 p0,.int .i64 p1,.int .i64 p2])).run prog W=.ok (.pointer (some ⟨W.heap.size,0,none⟩)) W1:=by rw [hW1];kernel_rfl
 cases fw with
 | false =>
  have A:=Hd (alive_any W1 (hT.below' (hb1.mono (Nat.le_refl _))) (hT.below' (hb1.mono (Nat.le_refl _))).two)
  have B:=Hd (FW W1);have hs:=hb1.size;replace hb1:=Hd hb1;clear hfw hE hT FW hW1 h0 h1 h2
  go_enter func6,ntmps6
  go_wp2_with (refine wpList_box rfl 88 (.tmp 2) rfl rfl hbx ?_)
  go_wp2_with fail;refine B.out.mono ?_;rintro e w1 ⟨rfl,rfl⟩;go_wp2_with fail;refine A.out.mono ?_;rintro e w2 ⟨rfl,hb⟩;go_wp2;go_returns
  exact ⟨rfl,hb1.out.trans (hb.mono hs)⟩
 | true =>
  replace hfw:=hfw.symm
  simp only [Bool.and_eq_true,decide_eq_true_eq] at hfw
  obtain ⟨n,rfl⟩:∃ n:Nat,cpus=n:=⟨cpus.toNat,by omega⟩
  obtain ⟨⟨hn1,hn9⟩,hlen⟩:=hfw
  have B:=Hd (FW W1)
  obtain ⟨ea,hea⟩:∃ e:Ev,e=⟨28,0,0,0,p0⟩:=⟨_,rfl⟩
  obtain ⟨eb,heb⟩:∃ e:Ev,e=⟨29,0,p1,0,p2⟩:=⟨_,rfl⟩
  have W2c:fives evC [ea,eb]=[.int .i64 28,.int .i64 0,.int .i64 0,.int .u64 0,.int .i64 p0,.int .i64 29,.int .i64 0,.int .i64 p1,.int .u64 0,.int .i64 p2]:=by rw [hea,heb];rfl
  obtain ⟨W2,hW2⟩:∃ W2,W2=W1.alloc (.cells #[.int .i64 28,.int .i64 0,.int .i64 0,.int .u64 0,.int .i64 p0,.int .i64 29,.int .i64 0,.int .i64 p1,.int .u64 0,.int .i64 p2] 39):=⟨_,rfl⟩
  have hb2:Below W.heap.size W W2:=by rw [hW2];exact hb1.alloc hb1.size _
  have R2:EvL W2 (New W) (.slice (some ⟨W1.heap.size,0,none⟩) 2 2) [ea,eb]:=by
   rw [hW2]
   refine RowAt.of_blk (Blk.new _ _ _) hb1.size rfl (Nat.le_refl _) (by unfold maxLen;omega) (Nat.le_refl _) ?_
   rw [W2c]
   rfl
  have hE2:=Hd (hE.below hb2);have src:=Hd (evs_src hE2.out)
  have hl0:(evL E len).length=len:=evL_len _ _
  have hT2:=Hd (hT.below' hb2);have hs2:=hb2.size;replace R2:=Hd R2;replace hb2:=Hd hb2;have hW:=hW2.symm;replace hW2:=Hd hW2;replace W2c:=Hd W2c;have hE0:=Hd hE;have hT0:=Hd hT
  have hea1:setsE ea=true:=by rw [hea];rfl
  have heb1:setsE eb=true:=by rw [heb];rfl
  have hea2:EvOk ea:=by rw [hea];refine ⟨by show (0:Nat) < top64;unfold top64;omega,?_,?_,?_,h0⟩ <;> (unfold In64;dsimp only;omega)
  have heb2:EvOk eb:=by rw [heb];refine ⟨by show (0:Nat) < top64;unfold top64;omega,?_,?_,h1,h2⟩ <;> (unfold In64;dsimp only;omega)
  replace hea1:=Hd hea1;replace heb1:=Hd heb1;replace hea2:=Hd hea2;replace heb2:=Hd heb2;clear FW hW1 hE hT hb1 hea heb h0 h1 h2
  go_enter func6,ntmps6
  go_wp2_with (refine wpList_box rfl 88 (.tmp 2) rfl rfl hbx ?_)
  go_wp2_with fail;refine B.out.mono ?_;rintro e w1 ⟨rfl,rfl⟩;clear B
  go_wp2_with (at_builtin;refine wpList_appE rfl _ _ rfl rfl rfl hl0 R2.out (by simp only [List.length_cons,List.length_nil];omega) src.out ?_)
  intro v3 W3 hR3 hC3
  clear src hl0
  have hb3:Below W.heap.size W W3:=hb2.out.trans (hC3.below hs2 (fun k hk e=>Nat.lt_irrefl _ (Nat.lt_of_lt_of_le hk e)))
  obtain ⟨T0,hTr⟩:∃ T0,T0=trace (kNew n) (evL E len):=⟨_,rfl⟩
  have X:=trace_any W3 (hT0.out.below' hb3) n (by omega) (by omega) a len cap (by omega) (hE0.out.below hb3)
  rw [← hTr] at X
  obtain ⟨mm,hmm⟩:∃ mm,mm=ea::eb::evL E len:=⟨_,rfl⟩
  rw [← hmm] at hR3
  have hml:mm.length=len+2:=by rw [hmm,List.length_cons,List.length_cons,evL_len]
  have hm0:mm[0]? = some ea:=by rw [hmm];rfl
  have hmt:trace (kNew n) mm=T0:=by rw [hmm,hTr];exact trace_both _ _ _ hea1.out heb1.out _
  have hmo:∀ e∈mm,EvOk e:=by
   intro e he
   rw [hmm] at he
   rcases List.mem_cons.1 he with rfl | h
   ·exact hea2.out
   rcases List.mem_cons.1 h with rfl | h
   ·exact heb2.out
   ·obtain ⟨i,hi,rfl⟩:=List.mem_map.1 h
    exact hE0.out.ok i (List.mem_range.1 hi)
  obtain ⟨g,c3,rfl,hM⟩:=evs_row hR3 (by omega) hmo
  clear hmm hTr;replace X:=Hd X;replace hb3:=Hd hb3;replace hR3:=Hd hR3;replace hM:=Hd hM;replace hmo:=Hd hmo;replace hmt:=Hd hmt;replace hm0:=Hd hm0;replace hC3:=Hd hC3
  obtain ⟨N,hN⟩:∃ N,N=mm.length:=⟨_,rfl⟩
  rw [← hN] at hM hml ⊢;replace hN:=Hd hN;replace hml:=Hd hml;clear hW hbx q0 q1 q2;go_wp2_with fail;refine X.out.mono ?_;rintro e W4 ⟨⟨v4,F4,rfl,hR4,-,hl4⟩,hb4⟩;replace hl4:=Hd hl4;clear X
  have hb04:=Hd (hb3.out.trans (hb4.mono hb3.out.size))
  obtain ⟨b4,c4,rfl⟩:=RowAt.form hR4
  have Y:=trace_any W4 (hT0.out.below' hb04.out) n (by omega) (by omega) (some ⟨g,0,none⟩) N c3 (by have:=hml.out;omega) (hM.out.below hb4)
  rw [hN.out,evL_list,hmt.out,← hN.out] at Y;replace Y:=Hd Y;replace hR4:=Hd hR4;replace hb4:=Hd hb4;go_wp2_with fail;refine Y.out.mono ?_;rintro e W5 ⟨⟨v5,F5,rfl,hR5,-,hl5⟩,hb5⟩;replace hl5:=Hd hl5;clear Y
  have hb05:=Hd (hb04.out.trans (hb5.mono hb04.out.size))
  obtain ⟨b5,c5,rfl⟩:=RowAt.form hR5
  have hR3b:EvL W5 (Plus W2 W3 (New W)) (.slice (some ⟨g,0,none⟩) mm.length c3) mm:=(RowAt.ch hR3.out (Ch.off hb4.out) (fun _ _ h=>h)).ch (Ch.off hb5) (fun _ _ h=>h)
  have Z:=plainE_any W5 hR3b hm0.out hea1.out (by have:=hml.out;rw [← hN.out];omega)
  have hkl:(keptTo mm mm.length).length≤N:=by rw [hN.out];exact keptTo_len _ _
  rw [← hN.out] at Z hkl
  obtain ⟨kk,hkk⟩:∃ kk,kk=keptTo mm N:=⟨_,rfl⟩
  rw [← hkk] at Z hkl
  have hkt:trace (kNew n) kk=T0:=by rw [hkk,hN.out,trace_kept];exact hmt.out
  have hko:∀ e∈kk,EvOk e:=by
   intro e he
   rw [hkk] at he
   exact hmo.out e (List.mem_of_mem_take (List.mem_filter.1 he).1)
  clear hkk hR3b;replace Z:=Hd Z;replace hR5:=Hd hR5;replace hb5:=Hd hb5;replace hkt:=Hd hkt;replace hko:=Hd hko;go_wp2_with fail;refine Z.out.mono ?_;rintro e W6 ⟨⟨g6,c6,rfl,hS6⟩,hb6⟩;clear Z
  have hb06:=Hd (hb05.out.trans (hb6.mono hb05.out.size))
  have V:=trace_any W6 (hT0.out.below' hb06.out) n (by omega) (by omega) (some ⟨g6,0,none⟩) kk.length c6 (by have:=hml.out;omega) (evs_stay hS6 hko.out)
  rw [evL_list,hkt.out] at V;replace V:=Hd V;replace hb6:=Hd hb6;replace hkl:=Hd hkl;generalize kk.length=kn at V;go_wp2_with fail;refine V.out.mono ?_;rintro e W7 ⟨⟨v7,F7,rfl,hR7,-,hl7⟩,hb7⟩;replace hl7:=Hd hl7;clear V
  have hb07:=Hd (hb06.out.trans (hb7.mono hb06.out.size))
  obtain ⟨b7,c7,rfl⟩:=RowAt.form hR7
  have x5:=RowAt.ch hR4.out (Ch.off hb5.out) (fun _ _ h=>h)
  have x7:=(x5.ch (Ch.off hb6.out) (fun _ _ h=>h)).ch (Ch.off hb7) (fun _ _ h=>h)
  have y7:=(RowAt.ch hR5.out (Ch.off hb6.out) (fun _ _ h=>h)).ch (Ch.off hb7) (fun _ _ h=>h)
  have D1:=Hd (differ_same W7 (l:=T0) x7 y7 (by have:=hl4.out;omega))
  have D2:=fun (W8:World) (h:Below W7.heap.size W7 W8)=>Hd (differ_same W8 (l:=T0) (RowAt.ch x7 (Ch.off h) (fun _ _ h=>h)) (RowAt.ch hR7 (Ch.off h) (fun _ _ h=>h)) (by have:=hl4.out;omega))
  clear x5 x7 y7 hR7 hb7;go_wp2_with fail;refine D1.out.mono ?_;rintro e W8 ⟨rfl,hb8⟩
  have D3:=D2 W8 hb8
  have hb08:=Hd (hb07.out.trans (hb8.mono hb07.out.size))
  clear D1 D2 hb8;go_wp2_with fail;refine D3.out.mono ?_;rintro e W9 ⟨rfl,hb9⟩
  have hb09:=Hd (hb08.out.trans (hb9.mono hb08.out.size))
  have A:=Hd (alive_any W9 (hT0.out.below' hb09.out) (hT0.out.below' hb09.out).two)
  clear D3 hb9;go_wp2_with fail;refine A.out.mono ?_;rintro e W10 ⟨rfl,hb10⟩;clear A;go_wp2;go_returns
  exact ⟨rfl,hb09.out.trans (hb10.mono hb09.out.size)⟩
end
section
open Go.Proofs.YtiocbpabbjgkhaaGreatDoor.Open Go.ChangeShapes Go.WideShapes
theorem open_arr3 {H:Type} {enc:TypeId × Value→H} {P:Program} {base b0:Nat} {spare:Nat→Bool} {held:Bool} {r:Reach} {t e:TypeId} (ht:P.underlying t=some (.array 3 e)) (he:P.underlying e=some (.int .i64)) (hce:P.cellsOf e=1) (hct:P.cellsOf t=3) {v:Value} {d:DataW H} {p:List MemPlace} (hv:Value.okWide P w r b0 t v) (h:DataW.Trod enc P w base spare held t v d p) :
  ∃ x:Nat→Int,v=.agg #[.int .i64 (x 0),.int .i64 (x 1),.int .i64 (x 2)]∧∀ i,i < 3→(Lit.int .i64 (x i)).wf=true:=by
 simp only [Value.okWide,ht] at hv
 obtain ⟨cs,rfl,h2,-⟩:=hv;obtain ⟨fuel,hf⟩:=h
 have hs:cs.size=3:=by rw [h2,hct]
 obtain ⟨c0,c1,c2,rfl⟩:∃ c0 c1 c2,cs=#[c0,c1,c2]:=by
  rcases cs with ⟨l⟩
  match l,hs with
  | [c0,c1,c2],_=>exact ⟨c0,c1,c2,rfl⟩
 obtain ⟨y0,y1,y2,n,-,g0,g1,g2⟩:=trod_array3 ht hce (show DataW.trod enc P w base spare held fuel t [c0,c1,c2]=some _ from hf)
 obtain ⟨m0,e0,-,w0⟩:=DataW.trod_int he g0
 obtain ⟨m1,e1,-,w1⟩:=DataW.trod_int he g1
 obtain ⟨m2,e2,-,w2⟩:=DataW.trod_int he g2
 simp at e0 e1 e2
 subst e0 e1 e2
 refine ⟨fun i=>if i=0 then m0 else if i=1 then m1 else m2,rfl,fun i hi=>?_⟩
 rcases (by omega:i=0∨i=1∨i=2) with rfl | rfl | rfl
 ·exact w0
 ·exact w1
 ·exact w2
theorem power_row (W:World) (hT:Tab W) (a0:Int) (w0:(Lit.int .i64 a0).wf=true) (a:Option Addr) (len cap:Nat) (V:Nat→Nat→Value) (row:StructRow W a len evKs V) (hle:len≤cap) (hb:len*40≤140737488351232) (x:Nat→Int) (wx:∀ i,i < 3→(Lit.int .i64 (x i)).wf=true):Calls prog 6 #[.int .i64 a0,.slice a len cap,.agg #[.int .i64 (x 0),.int .i64 (x 1),.int .i64 (x 2)]] W fun e W'=>e=.returned (.bool true)∧Below W.heap.size W W' :=
 power_any W hT a0 a len cap (evs_in row) _ _ _ (wf_i64 (wx 0 (by omega))) (wf_i64 (wx 1 (by omega))) (wf_i64 (wx 2 (by omega)))
end
end Go.Proofs.YtiocbpabbjgkhaaGreatDoor
