/- Part 9 of the proof: contracts and plain laws, each under the conditions that it names. -/
import Derived.Test.YtiocbpabbjgkhaaGreatDoorPow08
import Derived.Shelf.SlSortCmp.Whole1
import Derived.Shelf.SlSortCmp.NoneTotal
import Derived.Ground.SlsfProg
set_option maxRecDepth 100000
set_option maxHeartbeats 20000000
set_option linter.unusedVariables false
set_option linter.unusedSimpArgs false
namespace Go.Proofs.YtiocbpabbjgkhaaGreatDoor
open Go.RowKit Go.Proofs.Tryz
variable {w w' : World} {F : Nat → Prop} {p : Nat}
section
open Go.Sort Go.Shelf
def encN (n:Int):Value:=.int .i64 n
theorem putRow_ch {α:Type} [Inhabited α] (enc:α→Value) (w:World) (blk off:Nat) (d:Array α):Ch (fun b=>b=blk) w (putRow enc w blk off d):=by
 refine ⟨rfl,rfl,rfl,by simp [putRow,mapBlock],fun k hk hF=>?_⟩
 simp only [putRow,mapBlock]
 rw [Array.getElem?_modify,if_neg (fun e=>hF e.symm)]
@[simp] theorem putRow_size {α:Type} [Inhabited α] (enc:α→Value) (w:World) (blk off:Nat) (d:Array α):(putRow enc w blk off d).heap.size=w.heap.size:=by simp [putRow,mapBlock]
theorem putRow_blk {α:Type} [Inhabited α] (enc:α→Value) {g:Nat} {cs:Array Value} {t:TypeId} (h:Blk w g cs t) (d:Array α):Blk (putRow enc w g 0 d) g (putCells enc 0 d cs) t:=by
 unfold Blk at *
 simp only [putRow,mapBlock]
 rw [Array.getElem?_modify,if_pos rfl,h]
 rfl
theorem putCells_size {α:Type} [Inhabited α] (enc:α→Value) (d:Array α) (cs:Array Value):(putCells enc 0 d cs).size=cs.size:=by simp [putCells]
theorem putCells_take {α:Type} [Inhabited α] (enc:α→Value) (d:Array α) (cs:Array Value) (h:d.size≤cs.size) (n:Nat) (hn:n≤d.size):(putCells enc 0 d cs).toList.take n=(d.toList.take n).map enc:=by
 apply List.ext_getElem?
 intro k
 by_cases hk:k < n
 ·rw [List.getElem?_take_of_lt hk,List.getElem?_map,List.getElem?_take_of_lt hk,Array.getElem?_toList,Array.getElem?_toList]
  have h1:k < d.size:=by omega
  have h2:k < cs.size:=by omega
  simp [putCells,h1,h2]
 ·rw [List.getElem?_eq_none (by simp [putCells];omega),List.getElem?_eq_none (by simp;omega)]
theorem drop1_any (x d:Int) (W:World) (B:Nat) (hB:W.cell? ⟨B,0,none⟩=some (.int .i64 d)):Calls prog 328 #[.int .i64 x,.pointer (some ⟨B,0,none⟩)] W fun e w'=>e=.returned (.bool (x == d))∧W=w':=by
 go_enter func328,ntmps328
 go_wp2;go_returns
 exact ⟨rfl,rfl⟩
theorem oneN:OneCell encN:=fun _=>rfl
theorem index0_any (w:World) (base:Option Addr) (cap:Nat) (f:Value):Calls prog 258 #[.slice base 0 cap,f] w fun e w'=>e=.returned (.int .i64 (-1))∧w=w':=by
 go_enter func258,ntmps258
 go_wp2
 refine wp_loop_rounds 1 ?_
 rw [rounds_succ];go_wp2;go_returns
 exact ⟨rfl,rfl⟩
theorem cell_grow {b o:Nat} {v:Value} (h:w.cell? ⟨b,o,none⟩=some v) (os:Array Obj):(grow w os).cell? ⟨b,o,none⟩=some v:=by
 have hb:Below w.heap.size w (grow w os):=⟨rfl,rfl,rfl,by show w.heap.size≤(w.heap++os).size;rw [Array.size_append];omega,fun _ hj=>Sort.heap_grow_old w os hj⟩
 exact keepcell hb h
theorem holds_ints {g:Nat} {cs:Array Value} {l:List Int} (h:Blk w g cs 3) (ht:cs.toList.take l.length=l.map (Value.int .i64)):Holds encN w g 0 l.toArray:=by
 intro j hj
 have hj':j < l.length:=by simpa using hj
 refine ⟨?_,h.frozen _⟩
 rw [h.cell,Nat.zero_add]
 have h1:(l.map (Value.int .i64))[j]? = some (.int .i64 l[j]):=by simp [hj']
 have h2:=take_get ht h1
 rw [Array.getElem?_toList] at h2;rw [h2]
 simp [encN,hj']
theorem idelete_any (w:World) {v:Value} {l:List Int} (h:IntsAt w F v l) (d:Int) (B:Nat) (hB:w.cell? ⟨B,0,none⟩=some (.int .i64 d)) (hF:¬ F B):Calls prog 327 #[v,.func (.func 328) #[] #[.pointer (some ⟨B,0,none⟩)]] w fun e w'=>(∃ v',e=.returned v'∧IntsAt w' F v' (l.filter fun x=>!(x == d)))∧Ch F w w'∧w'.heap.size=w.heap.size:=by
 cases hl:l with
 | nil =>
  subst hl;have h0:=Hd h
  obtain ⟨base,cap,rfl⟩:=RowAt.form h
  have A:=Hd (index0_any w base cap (.func (.func 328) #[] #[.pointer (some ⟨B,0,none⟩)]))
  clear h
  go_enter func327,ntmps327
  go_wp2_with fail;refine A.out.mono ?_;rintro e w1 ⟨rfl,rfl⟩;go_wp2;go_returns
  exact ⟨⟨_,rfl,h0.out⟩,Ch.refl _ _,rfl⟩
 | cons x t =>
  rw [← hl]
  have hpos:0 < l.length:=by rw [hl];simp
  clear hl;obtain ⟨h1,base,cap,rfl,h3,h4,h5⟩:=h
  rcases h5 with ⟨h5,_⟩ | ⟨g,cs,rfl,hb,h6,h7,h8⟩
  ·omega
  have hne:B≠g:=fun e=>hF (e ▸ h8)
  have hH:=holds_ints hb (by simpa using h7)
  have hpa:PredAt prog 328 #[.pointer (some ⟨B,0,none⟩)] encN (fun x=>x == d) w:=fun W x hbw=>(drop1_any x d W B (keepcell hbw hB)).mono fun e w' ⟨a,b⟩=>⟨a,0,b.symm⟩
  have hpo:PredOver prog 328 #[.pointer (some ⟨B,0,none⟩)] encN (fun x=>x == d) g 0 l.toArray.size w:=fun n os dk x hs=>by
   refine (drop1_any x d _ B ?_).mono fun e w' ⟨a,b⟩=>⟨a,0,b.symm⟩
   unfold sortWorld
   refine cell_grow ?_ os
   rw [cell?_putRow_other _ _ _ _ _ _ (.inl hne)]
   exact hB
  have hD:=AnyE.slices_DeleteFunc laysDeleteFunc encN oneN (fun x=>x == d) 328 #[.pointer (some ⟨B,0,none⟩)] (enters_of func328 (by kernel_rfl) rfl) 0 (fun w=>by kernel_rfl) g 0 cap l.toArray w hpa hpo hH (by simp;unfold maxLen at h4;omega) (by simpa using h3)
  refine hD.mono ?_;rintro e w' ⟨rfl,q,rfl⟩
  have hfl:(l.filter fun x=>!(x == d)).length≤l.length:=List.length_filter_le _ _
  have hch:=(((Ch.refl F w).drewN q).trans ((putRow_ch encN (w.drewN q) g 0 ((l.filter fun x=>!(x == d))++List.replicate (l.length - (l.filter fun x=>!(x == d)).length) 0).toArray).mono (fun _ _ e=>e ▸ h8)))
  simp only [List.toList_toArray,List.size_toArray] at hfl hch ⊢
  have hDl:((l.filter fun x=>!(x == d))++List.replicate (l.length - (l.filter fun x=>!(x == d)).length) 0).toArray.size=l.length:=by simp;omega
  have hcs:l.length≤cs.size:=by simp at h6;omega
  refine ⟨⟨_,rfl,?_⟩,hch,by rw [putRow_size];rfl⟩
  refine RowAt.of_blk (putRow_blk encN (w:=Sort.ahead w q) hb _) h8 (by simp) (by omega) h4 (by rw [putCells_size];exact h6) ?_
  rw [Nat.mul_one,putCells_take _ _ _ (by rw [hDl];exact hcs) _ (by rw [hDl];exact hfl)]
  simp
  intro a _ _
  rfl
end
def wheelDrop (s:Wheel) (d:Int):Wheel × Int :=
 match mget s.dues d with
 | none=>(s,4)
 | some due=>(⟨s.now,mdel s.dues d,s.ls.set (listIx s.now due) ((s.ls.getD (listIx s.now due) []).filter fun x=>!(x == d))⟩,0)
theorem wdrop_any (w:World) {s:Wheel} (h:WheelAt w F p s) (d:Int):Calls prog 290 #[.pointer (some ⟨p,0,none⟩),.int .i64 d] w fun e w'=>e=.returned (.int .i64 (wheelDrop s d).2)∧WheelAt w' (Plus w w' F) p (wheelDrop s d).1∧Ch F w w':=by
 have HT:=Hd h;obtain ⟨mb,sv,c,h⟩:=h
 have c1:∀ o,(w.alloc o).cell? ⟨p,1,none⟩=some (.map (some mb)):=fun o=>by rw [(h.head.alloc o).cell];rfl
 have hl:=fun o=>IMapAt.look (P:=prog) (w:=(w.alloc o).drew) (IMapAt.ch h.map ((Ch.refl (fun _=>False) w).alloc o).drew (fun h=>h)) underlying272 underlying3 (zero2 _) d
 unfold wheelDrop
 cases hg:mget s.dues d with
 | none =>
  rw [hg] at hl;clear h hg
  go_enter func290,ntmps290
  go_wp2
  go_region
  go_wp2;go_returns
  exact ⟨rfl,(HT.out.ch ((Ch.refl (fun _=>False) w).alloc _).drew (fun _ _ h=>h)).mono Plus.sub (Plus.lt HT.out.ltF (by simp)),((Ch.refl F w).alloc _).drew⟩
 | some due =>
  rw [hg] at hl
  have hok:=h.ok _ (mget_mem hg)
  dsimp only at hok
  have hix:=listIx_lt h.now hok.2
  have hX2:=fun n=>h.ch (((Ch.refl (fun _=>False) w).alloc (.cells #[.int .i64 d] 3)).drewN n) (fun _ _ h=>h)
  have A:=Hd (wlist_any ((w.alloc (.cells #[.int .i64 d] 3)).drew) (hX2 1) due hok.2)
  dsimp only
  obtain ⟨ix,hixe⟩:∃ ix,ix=listIx s.now due:=⟨_,rfl⟩
  rw [← hixe] at A hix ⊢;replace hixe:=Hd hixe
  have cs:∀ n,((w.alloc (.cells #[.int .i64 d] 3)).drewN n).cell? ⟨p,2+ix,none⟩=some (sv ix):=fun n=>by rw [(hX2 n).head.cell];exact wheelCells_get _ _ _ _ hix
  obtain ⟨bx,cx,hsv⟩:=RowAt.form (h.ls ix hix)
  rw [hsv] at cs;have hlt:=h.lt
  have D:=fun n=>Hd (idelete_any _ (hsv ▸ (hX2 n).ls ix hix) d w.heap.size (by exact (Blk.new w #[.int .i64 d] 3).cell 0) (fun e=>by have:=hlt _ e.1;omega))
  obtain ⟨q,hq⟩:∃ q,q=s.ls.getD ix []:=⟨_,rfl⟩
  rw [← hq] at D cs ⊢;replace hq:=Hd hq;have HX2:=Hd hX2;replace hlt:=Hd hlt;clear hX2 hok h hg
  go_enter func290,ntmps290
  go_wp2
  go_region
  go_wp2_with fail;refine A.out.mono ?_;rintro e w1 ⟨rfl,n,rfl⟩
  replace D:=D (1+n)
  go_wp2_with fail;refine D.out.mono ?_;rintro e w3 ⟨⟨v',rfl,h5⟩,h6,h7⟩
  obtain ⟨Q,hQ⟩:∃ Q,Q=q.filter fun x=>!(x == d):=⟨_,rfl⟩
  rw [← hQ] at h5
  obtain ⟨bv,cv,rfl⟩:=RowAt.form h5
  have hX:=HX2.out (1+n)
  have hb3:=hX.head.ch h6 (Col.apart (by omega) _ hX.fp)
  have c3:w3.cell? ⟨p,2+ix,none⟩=some (.slice bx q.length cx):=by rw [hb3.cell,wheelCells_get _ _ _ _ hix,hsv,hq.out]
  have f3:w3.frozen? ⟨p,2+ix,none⟩=false:=hb3.frozen _
  have hY:=hX.set hix (h5.mono (fun _ h=>.inl h)) h6
  have hbox:Blk w3 w.heap.size #[.int .i64 d] 3:=((Blk.new w #[.int .i64 d] 3).drewN (1+n)).ch h6 (fun e=>by have:=hlt.out _ e.1;omega)
  have hpn:p≠w.heap.size:=by have:=hlt.out _ hX.fp.1;omega
  have hZ:=hY.ch (Ch.refl (fun _=>False) _).drew (fun _ _ h=>h)
  have c4:(w3.setCell ⟨p,2+ix,none⟩ (.slice bv Q.length cv)).cell? ⟨p,1,none⟩=some (.map (some mb)):=by rw [hY.head.cell];rfl
  have c5:(w3.setCell ⟨p,2+ix,none⟩ (.slice bv Q.length cv)).cell? ⟨w.heap.size,0,none⟩=some (.int .i64 d):=by rw [(hbox.far (p:=⟨p,2+ix,none⟩) hpn _).cell];rfl
  have hdel:=fun ty=>run_del (P:=prog) hZ.map underlying272 underlying3 d ty 3
  have hW:=hZ.del d
  have hCh:=(((((Ch.refl F w).alloc (.cells #[.int .i64 d] 3)).drewN (1+n)).trans (Col.ch h6)).setCell (p:=⟨p,2+ix,none⟩) (fun _=>hX.fp.1) (.slice bv Q.length cv)).drew.mapDel (fun _=>hX.fm.1) d
  have hsz:=hCh.size;replace hY:=Hd hY;replace hW:=Hd hW;replace hCh:=Hd hCh;replace h7:=Hd h7;replace hQ:=Hd hQ;clear hX hb3 hZ hbox h5 h6 cs D A;go_wp2
  go_region
  go_wp2;go_returns
  refine ⟨rfl,?_,hCh.out⟩
  have e:(⟨s.now,mdel s.dues d,s.ls.set ix (q.filter fun x=>!(x == d))⟩:Wheel)=⟨s.now,mdel s.dues d,s.ls.set ix Q⟩:=by rw [hQ.out]
  rw [e];have h7':=h7.out
  have hz1:((w.alloc (Obj.cells #[Value.int IntKind.i64 d] 3)).drewN (1+n)).heap.size=w.heap.size+1:=World.size_alloc _ _
  rw [hz1] at h7'
  have hz3:(mapDel (w3.setCell ⟨p,2+ix,none⟩ (.slice bv Q.length cv)).drew mb d).heap.size=w3.heap.size:=by rw [mapDel_size];exact World.size_setCell _ _ _
  refine hW.out.at.mono (fun b hb=>?_) (fun b hb=>?_)
  ·exact hb.elim .inl (fun e=>.inr ⟨by have:=e.1;rw [hz1] at this;omega,by rw [hz3];exact e.2⟩)
  ·rcases hb with hb | hb
   ·exact Nat.lt_of_lt_of_le (hlt.out b hb) hCh.out.size
   ·exact hb.2
theorem wpList_appI {ops:Array Oper} {rest:List Oper} {o:Oper} {A:Act} {Q:Exit→Act→World→Prop} (hgd:o.guard=none) (s x:Operand)
  (ho:o.op=.call { callee:=.builtin .append,args:=#[s,x],argTypes:=#[65,65] }) {F F2:Nat→Prop} {v v2:Value} {l l2:List Int} (hs:A.eval s=v) (hx:A.eval x=v2) (h:IntsAt w F v l) (h2:IntsAt w F2 v2 l2) (hl:l.length+l2.length≤1099511627776)
  (hK:∀ v' w',IntsAt w' (Plus w w' F) v' (l++l2)→Ch F w w'→wpList prog ops Q rest (A.put o.dst v') w'):wpList prog ops Q (o::rest) A w:=by
 refine wpList_plain hgd fun K hh=>?_
 obtain ⟨v',w',hr,h3,h4⟩:=run_appI h h2 hl o.type
 unfold Oper.wp execOp
 simp only [ho,resolve,invoke,builtin,Sem.run_bind,Sem.run_pure,Result.andThen_ok,List.map_toArray,List.map_cons,List.map_nil,hs,hx,hr]
 exact hh _ _ (hK v' w' h3 h4)
def takeN (s:Wheel) (b:Nat):Nat→Wheel × List Int
 | 0=>(s,[])
 | n+1=>(⟨(takeN s b n).1.now,(takeN s b n).1.dues,(takeN s b n).1.ls.set (b+n) []⟩,(takeN s b n).2++(takeN s b n).1.ls.getD (b+n) [])
theorem takeN_sum (s:Wheel) (b:Nat):∀ n,(takeN s b n).1.ls.length=s.ls.length∧(b+n≤s.ls.length→wheelMax (takeN s b n).1+(takeN s b n).2.length=wheelMax s)
 | 0=>⟨rfl,fun _=>by simp [takeN]⟩
 | n+1=>by
  obtain ⟨h1,h2⟩:=takeN_sum s b n
  refine ⟨by simp [takeN,h1],fun hb=>?_⟩
  have h3:=h2 (by omega)
  have h4:=sum_set (takeN s b n).1.ls (b+n) [] (by omega)
  simp only [takeN,List.length_append,wheelMax] at h3 h4 ⊢
  simp only [List.length_nil] at h4
  omega
theorem wtaken_any (w:World) {s:Wheel} (h:WheelAt w F p s) (lv upto n:Nat) (hlv:lv≤20) (hn:n=min upto 8) (hu:upto≤100) (hmax:wheelMax s≤1099511627776):Calls prog 280 #[.pointer (some ⟨p,0,none⟩),.int .i64 lv,.int .i64 upto] w fun e w'=>(∃ v,e=.returned v∧IntsAt w' (New w) v (takeN s (8*lv) n).2)∧WheelAt w' F p (takeN s (8*lv) n).1∧Ch F w w':=by
 have HW:=Hd h;have hlt:=Hd h.ltF
 have hlen:Hid (s.ls.length=169):=by obtain ⟨mb,sv,c,h⟩:=h;exact Hd h.len
 have hmin:min (upto:Int) 8=(n:Nat):=by omega
 have hn8:n≤8:=by omega
 clear h;replace hn:=Hd hn
 go_enter func280,ntmps280
 go_wp2;clear hmin
 go_loopw [11,8,7] (fun iv _ lv' wr=>∃ k:Nat,iv=.int .i64 k∧k≤n∧Hid (IntsAt wr (New w) lv' (takeN s (8*lv) k).2)∧Hid (WheelAt wr F p (takeN s (8*lv) k).1)∧Hid (Ch F w wr)) (fun iv _ _ _=>n - (intOf iv).toNat)
 case atStart=>exact ⟨0,rfl,by omega,Hd (IntsAt.nil _ _),HW,Hd (Ch.refl _ _)⟩
 case round =>
  obtain ⟨k,rfl,hk,HL,H,HC⟩:=hrel
  by_cases hlt':k < n
  ·have hsum:=takeN_sum s (8*lv) k
   have hnext:takeN s (8*lv) (k+1)=(⟨(takeN s (8*lv) k).1.now,(takeN s (8*lv) k).1.dues,(takeN s (8*lv) k).1.ls.set (8*lv+k) []⟩,(takeN s (8*lv) k).2++(takeN s (8*lv) k).1.ls.getD (8*lv+k) []):=rfl
   obtain ⟨⟨st,out⟩,hst⟩:∃ r,r=takeN s (8*lv) k:=⟨_,rfl⟩
   rw [← hst] at H HL hsum hnext;dsimp only at H HL hsum hnext;replace hnext:=Hd hnext;obtain ⟨mb,sv,c,hX⟩:=H.out
   have hix:8*lv+k < 169:=by omega
   have cs:wr.cell? ⟨p,2+lv*8+k,none⟩=some (sv (8*lv+k)):=by rw [show 2+lv*8+k=2+(8*lv+k) by omega,hX.head.cell];exact wheelCells_get _ _ _ _ hix
   obtain ⟨bx,cx,hsv⟩:=RowAt.form (hX.ls (8*lv+k) hix)
   have hI:=hX.ls (8*lv+k) hix
   rw [hsv] at cs hI
   obtain ⟨q,hq⟩:∃ q,q=st.ls.getD (8*lv+k) []:=⟨_,rfl⟩
   rw [← hq] at hI cs
   have hql:out.length+q.length≤1099511627776:=by
    have h1:=len_le_sum st.ls (8*lv+k)
    have h2:=hsum.2 (by have:=hlen.out;omega)
    unfold wheelMax at h2 hmax;rw [← hq] at h1
    omega
   replace hq:=Hd hq
   obtain ⟨b0,c0,hl0⟩:=RowAt.form HL.out
   subst hl0
   go_wp2_with (at_builtin;refine wpList_appI rfl _ _ rfl (by rfl) (by rfl) HL.out hI hql ?_)
   intro v' w2 h5 h6
   obtain ⟨Q,hQ⟩:∃ Q,Q=out++q:=⟨_,rfl⟩
   rw [← hQ] at h5;replace hQ:=Hd hQ
   obtain ⟨bv,cv,rfl⟩:=RowAt.form h5
   have hs1:=HC.out.size
   have hdis:∀ b,F b→¬ New w b:=fun b hb e=>by have:=hlt.out b hb;unfold New at e;omega
   have hX2:=hX.ch h6 hdis
   have hY:=hX2.set hix (v:=.slice none 0 0) (IntsAt.nil _ _) (Ch.refl _ w2)
   rw [Plus.self] at hY
   have c2:w2.cell? ⟨p,2+lv*8+k,none⟩=some (.slice bx q.length cx):=by rw [show 2+lv*8+k=2+(8*lv+k) by omega,hX2.head.cell,wheelCells_get _ _ _ _ hix,hsv,hq.out]
   have f2:w2.frozen? ⟨p,2+lv*8+k,none⟩=false:=hX2.head.frozen _
   have hp:=hX2.fp.1
   have hl2:IntsAt (w2.setCell ⟨p,2+lv*8+k,none⟩ (.slice none 0 0)) (New w) (.slice bv Q.length cv) Q:=(h5.mono (New.plus hs1)).ch ((Ch.refl (fun b=>b=p) w2).put _ _) (fun b hb e=>by have e:b=p:=e;subst e;exact hdis _ hp hb)
   have hC2:Ch F w (w2.setCell ⟨p,2+lv*8+k,none⟩ (.slice none 0 0)):=(HC.out.then h6 (fun i hi e=>by unfold New at e;omega)).setCell (p:=⟨p,2+lv*8+k,none⟩) (fun _=>hp) _
   replace hY:=Hd hY;replace hl2:=Hd hl2;replace hC2:=Hd hC2;clear hX hX2 h5 h6 hI hsum H HL HC;go_wp2;go_roundw
   case rel =>
    refine ⟨k+1,by go_num,hlt',?_,?_,hC2⟩
    ·rw [hnext.out]
     dsimp only;rw [← hq.out,← hQ.out]
     exact hl2
    ·rw [hnext.out]
     have:=hY.out.at
     rw [show 2+(8*lv+k)=2+lv*8+k by omega] at this
     exact Hd this
   case measure=>simp [intOf];omega
  ·have:k=n:=by omega
   subst this;go_wp2;go_returns
   exact ⟨⟨_,rfl,HL.out⟩,H.out,HC.out⟩
def takeLevels (s:Wheel):Nat→Wheel × List Int
 | 0=>(s,[])
 | t+1=>((takeN (takeLevels s t).1 (8*t) 8).1,(takeLevels s t).2++(takeN (takeLevels s t).1 (8*t) 8).2)
theorem takeLevels_sum (s:Wheel):∀ t,(takeLevels s t).1.ls.length=s.ls.length∧(8*t≤s.ls.length→wheelMax (takeLevels s t).1+(takeLevels s t).2.length=wheelMax s)
 | 0=>⟨rfl,fun _=>by simp [takeLevels]⟩
 | t+1=>by
  obtain ⟨h1,h2⟩:=takeLevels_sum s t
  obtain ⟨h3,h4⟩:=takeN_sum (takeLevels s t).1 (8*t) 8
  refine ⟨by simp only [takeLevels];omega,fun hb=>?_⟩
  have h5:=h2 (by omega)
  have h6:=h4 (by omega)
  simp only [takeLevels,List.length_append]
  omega
theorem takeN_now (s:Wheel) (b:Nat):∀ n,(takeN s b n).1.now=s.now∧(takeN s b n).1.dues=s.dues
 | 0=>⟨rfl,rfl⟩
 | n+1=>takeN_now s b n
theorem takeLevels_now (s:Wheel):∀ t,(takeLevels s t).1.now=s.now∧(takeLevels s t).1.dues=s.dues
 | 0=>⟨rfl,rfl⟩
 | t+1=>by
  obtain ⟨h1,h2⟩:=takeN_now (takeLevels s t).1 (8*t) 8
  obtain ⟨h3,h4⟩:=takeLevels_now s t
  exact ⟨h1.trans h3,h2.trans h4⟩
def goneF (s:Wheel) (t:Nat):Wheel × List Int :=
 ((takeN (takeLevels s (levelF t s.now)).1 (8*levelF t s.now) (min (digitF t (levelF t s.now)+1) 8)).1,(takeLevels s (levelF t s.now)).2++(takeN (takeLevels s (levelF t s.now)).1 (8*levelF t s.now) (min (digitF t (levelF t s.now)+1) 8)).2)
def goAt (s:Wheel) (t:Nat):Wheel:=putAll ⟨t,(goneF s t).1.dues,(goneF s t).1.ls⟩ (goneF s t).2
def wheelGo (s:Wheel) (t:Int):Wheel × Int :=
 if t < s.now then (s,2) else if rightF t then (if t=s.now then (s,0) else (goAt s t.toNat,0)) else (s,2)
theorem WheelAtQ.tick {p mb:Nat} {sv:Nat→Value} {c:Nat→Nat} {s:Wheel} (h:WheelAtQ w F p mb sv c s) (t:Nat) (ht:t≤1152921504606846976):WheelAtQ (w.setCell ⟨p,0,none⟩ (.int .i64 t)) F p mb sv c ⟨t,s.dues,s.ls⟩:=by
 have hc:Ch (fun b=>b=p) w (w.setCell ⟨p,0,none⟩ (.int .i64 t)):=(Ch.refl _ w).put 0 _
 have hp:∀ j b,j≠0→Col F c j b→¬ b=p:=fun j b hj hb e=>by subst e;have:=hb.2.symm.trans h.fp.2;omega
 have hh:Blk (w.setCell ⟨p,0,none⟩ (.int .i64 t)) p (wheelCells t mb sv) 276:=by
  have:=h.head.set 0 (.int .i64 t)
  unfold wheelCells at *
  rwa [List.setIfInBounds_toArray,List.set_cons_zero] at this
 exact ⟨hh,h.map.ch hc (hp 1 _ (by omega) h.fm),h.fp,h.fm,fun b hb=>by simpa using h.lt b hb,fun i hi=>(h.ls i hi).ch hc (fun b hb=>hp _ b (by omega) hb),h.len,ht,h.ok⟩
theorem wgo_any (w:World) {s:Wheel} (h:WheelAt w F p s) (t:Int) (hmax:wheelMax s≤1099511627776):Calls prog 213 #[.pointer (some ⟨p,0,none⟩),.int .i64 t] w fun e w'=>e=.returned (.int .i64 (wheelGo s t).2)∧WheelAt w' (Plus w w' F) p (wheelGo s t).1∧Ch F w w':=by
 have HT:=Hd h;have A:=Hd (wright_any t w);have hlt:=Hd h.ltF;obtain ⟨mb,sv,c,h⟩:=h
 have c0:w.cell? ⟨p,0,none⟩=some (.int .i64 s.now):=by rw [h.head.cell];rfl
 have hnow:=h.now;have hlen:=Hd h.len;clear h;unfold wheelGo
 by_cases h1:t < s.now
 ·rw [if_pos h1]
  generalize s.now=now at *;clear A
  go_enter func213,ntmps213
  go_wp2;go_returns
  exact ⟨rfl,by rw [Plus.self];exact HT.out,Ch.refl _ _⟩
 ·rw [if_neg h1]
  cases hr:rightF t with
  | false =>
   rw [hr] at A;clear hr;generalize s.now=now at *
   go_enter func213,ntmps213
   go_wp2_with fail;refine A.out.mono ?_;rintro e w1 ⟨rfl,rfl⟩;go_wp2;go_returns
   exact ⟨rfl,by rw [Plus.self];exact HT.out,Ch.refl _ _⟩
  | true =>
   rw [hr] at A
   have hrt:=rightF_iff hr
   clear hr
   by_cases h2:t=s.now
   ·rw [if_pos rfl,if_pos h2]
    obtain ⟨now,hno⟩:∃ now,now=s.now:=⟨_,rfl⟩
    rw [← hno] at *;subst h2;clear hno
    go_enter func213,ntmps213
    go_wp2_with fail;refine A.out.mono ?_;rintro e w1 ⟨rfl,rfl⟩;go_wp2;go_returns
    exact ⟨rfl,by rw [Plus.self];exact HT.out,Ch.refl _ _⟩
   ·rw [if_pos rfl,if_neg h2]
    obtain ⟨tn,rfl⟩:∃ tn:Nat,t=tn:=⟨t.toNat,by omega⟩
    rw [Int.toNat_natCast];unfold goAt goneF
    have B:=Hd (wlevel_any tn s.now (by omega) hnow (by omega) w)
    have hlv:=level_le (a:=tn) (b:=s.now) (by omega) hnow
    have hne:((tn:Int) == s.now)=false:=by simpa using h2
    obtain ⟨now,hno⟩:∃ now,now=s.now:=⟨_,rfl⟩
    rw [← hno] at hnow hlv B c0 h1 hne ⊢;clear h2;generalize levelF tn now=lv at *;replace hno:=Hd hno
    go_enter func213,ntmps213
    go_wp2_with fail;refine A.out.mono ?_;rintro e w1 ⟨rfl,rfl⟩;go_wp2_with fail;refine B.out.mono ?_;rintro e w1 ⟨rfl,rfl⟩;go_wp2
    go_loopw [37,7,6] (fun iv _ gv wr=>∃ k:Nat,iv=.int .i64 k∧k≤lv∧Hid (IntsAt wr (New w) gv (takeLevels s k).2)∧Hid (WheelAt wr F p (takeLevels s k).1)∧Hid (Ch F w wr)) (fun iv _ _ _=>lv - (intOf iv).toNat)
    case atStart=>exact ⟨0,rfl,by omega,Hd (IntsAt.nil _ _),HT,Hd (Ch.refl _ _)⟩
    case round =>
     obtain ⟨k,rfl,hk,HL,H,HC⟩:=hrel
     have hdis:Hid (∀ b,F b→¬ New w b):=Hd fun b hb e=>by have:=hlt.out b hb;unfold New at e;omega
     by_cases hlt':k < lv
     ·have hsum:=takeLevels_sum s k
      have hsum2:=takeN_sum (takeLevels s k).1 (8*k) 8
      have hlen':=hlen.out
      have D:=Hd (wtaken_any wr H.out k 8 8 (by omega) (by omega) (by omega) (by have:=hsum.2 (by omega);omega))
      obtain ⟨b0,c0,hl0⟩:=RowAt.form HL.out
      subst hl0
      have hql:(takeLevels s k).2.length+(takeN (takeLevels s k).1 (8*k) 8).2.length≤1099511627776:=by
       have h5:=hsum.2 (by omega)
       have h6:=hsum2.2 (by omega)
       omega
      clear hlen' hsum hsum2;go_wp2_with fail;refine D.out.mono ?_;rintro e w2 ⟨⟨v2,rfl,h5⟩,h6,h7⟩
      have HL2:=HL.out.ch h7 (fun b hb e=>hdis.out b e hb)
      go_wp2_with (at_builtin;refine wpList_appI rfl _ _ rfl (by rfl) (by rfl) HL2 h5 hql ?_)
      intro v' w3 h8 h9
      obtain ⟨bv,cv,hv'⟩:=RowAt.form h8
      have hs1:=HC.out.size;have hs2:=h7.size
      have hl3:=Hd (h8.mono (New.plus (w:=w) (by omega)))
      have hW3:=Hd (h6.ch h9 hdis.out)
      have hC3:=Hd ((HC.out.trans h7).then h9 (fun i hi e=>by unfold New at e;omega))
      clear h5 h6 h7 h8 h9 HL2 D HL H HC;subst hv';go_wp2;go_roundw
      case rel=>exact ⟨k+1,by go_num,hlt',hl3,hW3,hC3⟩
      case measure=>simp [intOf];omega
     ·have:k=lv:=by omega
      subst this
      have hsum:=takeLevels_sum s k
      have hsum2:=takeN_sum (takeLevels s k).1 (8*k) (min (digitF tn k+1) 8)
      have hlen':=hlen.out
      have hmx1:wheelMax (takeLevels s k).1≤1099511627776:=by have:=hsum.2 (by omega);omega
      have hql:(takeLevels s k).2.length+(takeN (takeLevels s k).1 (8*k) (min (digitF tn k+1) 8)).2.length≤1099511627776:=by
       have h5:=hsum.2 (by omega)
       have h6:=hsum2.2 (by omega)
       omega
      have hmx2:wheelMax (takeN (takeLevels s k).1 (8*k) (min (digitF tn k+1) 8)).1+((takeLevels s k).2++(takeN (takeLevels s k).1 (8*k) (min (digitF tn k+1) 8)).2).length≤1099511627776:=by
       have h5:=hsum.2 (by omega)
       have h6:=hsum2.2 (by omega)
       rw [List.length_append]
       omega
      have hnow2:=takeN_now (takeLevels s k).1 (8*k) (min (digitF tn k+1) 8)
      have hdg:digitF tn k < 8:=Nat.mod_lt _ (by omega)
      have E:=Hd (wdigit_any tn k (by omega) hlv wr)
      obtain ⟨g,hg⟩:∃ g,g=digitF tn k:=⟨_,rfl⟩
      rw [← hg] at hql hmx2 hnow2 hdg E;replace hg:=Hd hg
      have D:=(wtaken_any wr H.out k (g+1) (min (g+1) 8) hlv rfl (by omega) hmx1)
      rw [show ((g+1:Nat):Int)=(g:Int)+1 by omega] at D;replace D:=Hd D
      obtain ⟨TT,hTT⟩:∃ TT,TT=takeN (takeLevels s k).1 (8*k) (min (g+1) 8):=⟨_,rfl⟩
      obtain ⟨out,hout⟩:∃ out,out=(takeLevels s k).2:=⟨_,rfl⟩
      rw [← hTT] at hql hmx2 hnow2 D;rw [← hout] at hql hmx2 HL;replace hTT:=Hd hTT;replace hout:=Hd hout
      obtain ⟨b0,c0',hl0⟩:=RowAt.form HL.out
      subst hl0;clear hsum hsum2 hlen' hmx1;go_wp2_with fail;refine E.out.mono ?_;rintro e w1 ⟨rfl,rfl⟩;go_wp2_with fail;refine D.out.mono ?_;rintro e w2 ⟨⟨v2,rfl,h5⟩,h6,h7⟩
      have HL2:=HL.out.ch h7 (fun b hb e=>hdis.out b e hb)
      go_wp2_with (at_builtin;refine wpList_appI rfl _ _ rfl (by rfl) (by rfl) HL2 h5 hql ?_)
      intro v' w3 h8 h9
      obtain ⟨Q,hQ⟩:∃ Q,Q=out++TT.2:=⟨_,rfl⟩
      rw [← hQ] at h8 hmx2;replace hQ:=Hd hQ
      obtain ⟨bv,cv,hv'⟩:=RowAt.form h8
      subst hv';have hs1:=HC.out.size;have hs2:=h7.size;have hs3:=h9.size
      have hl3:=h8.mono (New.plus (w:=w) (by omega))
      have hW3:=h6.ch h9 hdis.out
      have hC3:=Hd ((HC.out.trans h7).then h9 (fun i hi e=>by unfold New at e;omega))
      obtain ⟨mb3,sv3,c3,hX⟩:=hW3
      have k0:w3.cell? ⟨p,0,none⟩=some (.int .i64 TT.1.now):=by rw [hX.head.cell];rfl
      have g0:w3.frozen? ⟨p,0,none⟩=false:=hX.head.frozen _
      have hT:=hX.tick tn (by omega)
      have hp:=hX.fp.1
      have hl4:IntsAt (w3.setCell ⟨p,0,none⟩ (.int .i64 tn)) (New w) (.slice bv Q.length cv) Q:=hl3.ch ((Ch.refl (fun b=>b=p) w3).put 0 _) (fun b hb e=>by have e:b=p:=e;subst e;exact hdis.out _ hp hb)
      have G:=Hd (wput_any _ hT.at _ _ hl4 (fun b hb e=>hdis.out b e hb) hmx2)
      have hC4:=Hd (hC3.out.setCell (p:=⟨p,0,none⟩) (fun _=>hp) (.int .i64 tn))
      clear h5 h6 h7 h8 h9 HL2 D HL H HC hl3 hX hT hl4;go_wp2_with fail;refine G.out.mono ?_;rintro e w4 ⟨rfl,h1',h2'⟩;replace h1':=Hd h1';replace h2':=Hd h2';go_wp2;go_returns;rw [← hg.out,← hTT.out,← hout.out,← hQ.out]
      refine ⟨rfl,h1'.out.mono (fun b hb=>hb.elim .inl (fun e=>.inr ⟨by have:=e.1;simp at this;omega,e.2⟩)) (fun b hb=>hb.elim (fun e=>by have:=hlt.out b e;have:=h2'.out.size;simp at this;omega) (fun e=>e.2)),hC4.out.trans h2'.out⟩
def cmp3 (x y:Int):Int:=if x < y then -1 else if y < x then 1 else 0
def cmpF (m:List (Int × Int)) (a b:Int):Int:=if cmp3 ((mget m a).getD 0) ((mget m b).getD 0)≠0 then cmp3 ((mget m a).getD 0) ((mget m b).getD 0) else cmp3 a b
theorem cmp64_any (x y:Int) (w:World):Calls prog 256 #[.int .i64 x,.int .i64 y] w fun e w'=>e=.returned (.int .i64 (cmp3 x y))∧w=w':=by
 have A:=Hd (cmp_isNaN_int2_f309 x w);have B:=Hd (cmp_isNaN_int2_f309 y w);unfold cmp3
 rcases (by omega:x < y∨(¬ x < y∧y < x)∨(¬ x < y∧¬ y < x)) with h | ⟨h,h2⟩ | ⟨h,h2⟩
 ·rw [if_pos h]
  go_enter func256,ntmps256
  go_wp2_with fail;refine A.out.mono ?_;rintro e w1 ⟨rfl,rfl⟩;go_wp2_with fail;refine B.out.mono ?_;rintro e w1 ⟨rfl,rfl⟩;go_wp2;go_returns
  exact ⟨rfl,rfl⟩
 ·rw [if_neg h,if_pos h2]
  go_enter func256,ntmps256
  go_wp2_with fail;refine A.out.mono ?_;rintro e w1 ⟨rfl,rfl⟩;go_wp2_with fail;refine B.out.mono ?_;rintro e w1 ⟨rfl,rfl⟩;go_wp2;go_returns
  exact ⟨rfl,rfl⟩
 ·rw [if_neg h,if_neg h2]
  go_enter func256,ntmps256
  go_wp2_with fail;refine A.out.mono ?_;rintro e w1 ⟨rfl,rfl⟩;go_wp2_with fail;refine B.out.mono ?_;rintro e w1 ⟨rfl,rfl⟩;go_wp2;go_returns
  exact ⟨rfl,rfl⟩
theorem cmpint_any (x y:Int) (w:World):Calls prog 257 #[.int .i64 x,.int .i64 y] w fun e w'=>e=.returned (.int .i64 (cmp3 x y))∧w=w':=by
 have A:=Hd (cmp_isNaN_int2 x w);have B:=Hd (cmp_isNaN_int2 y w);unfold cmp3
 rcases (by omega:x < y∨(¬ x < y∧y < x)∨(¬ x < y∧¬ y < x)) with h | ⟨h,h2⟩ | ⟨h,h2⟩
 ·rw [if_pos h]
  go_enter func257,ntmps257
  go_wp2_with fail;refine A.out.mono ?_;rintro e w1 ⟨rfl,rfl⟩;go_wp2_with fail;refine B.out.mono ?_;rintro e w1 ⟨rfl,rfl⟩;go_wp2;go_returns
  exact ⟨rfl,rfl⟩
 ·rw [if_neg h,if_pos h2]
  go_enter func257,ntmps257
  go_wp2_with fail;refine A.out.mono ?_;rintro e w1 ⟨rfl,rfl⟩;go_wp2_with fail;refine B.out.mono ?_;rintro e w1 ⟨rfl,rfl⟩;go_wp2;go_returns
  exact ⟨rfl,rfl⟩
 ·rw [if_neg h,if_neg h2]
  go_enter func257,ntmps257
  go_wp2_with fail;refine A.out.mono ?_;rintro e w1 ⟨rfl,rfl⟩;go_wp2_with fail;refine B.out.mono ?_;rintro e w1 ⟨rfl,rfl⟩;go_wp2;go_returns
  exact ⟨rfl,rfl⟩
theorem or2_any (x y:Int) (w:World) (b cap:Nat) (h0:w.cell? ⟨b,0,none⟩=some (.int .i64 x)) (h1:w.cell? ⟨b,1,none⟩=some (.int .i64 y)):Calls prog 255 #[.slice (some ⟨b,0,none⟩) 2 cap] w fun e w'=>e=.returned (.int .i64 (if x≠0 then x else y))∧w=w':=by
 by_cases hx:x=0
 ·subst hx
  rw [if_neg (by simp)]
  by_cases hy:y=0
  ·subst hy
   go_enter func255,ntmps255
   go_wp2
   refine wp_loop_rounds 3 ?_
   rw [rounds_succ];go_wp2;rw [rounds_succ];go_wp2;rw [rounds_succ];go_wp2;go_returns
   exact ⟨rfl,rfl⟩
  ·have hy':(y != 0)=true:=by simpa using hy
   clear hy
   go_enter func255,ntmps255
   go_wp2
   refine wp_loop_rounds 3 ?_
   rw [rounds_succ];go_wp2;rw [rounds_succ];go_wp2;go_returns
   exact ⟨rfl,rfl⟩
 ·have hx':(x != 0)=true:=by simpa using hx
  rw [if_pos hx];clear hx
  go_enter func255,ntmps255
  go_wp2
  refine wp_loop_rounds 3 ?_
  rw [rounds_succ];go_wp2;go_returns
  exact ⟨rfl,rfl⟩
theorem wcmp_any (a b:Int) (W:World) (B p mb:Nat) (m:List (Int × Int)) (hB:W.cell? ⟨B,0,none⟩=some (.pointer (some ⟨p,0,none⟩))) (hp:W.cell? ⟨p,1,none⟩=some (.map (some mb))) (hm:IMapAt W mb m):Calls prog 254 #[.int .i64 a,.int .i64 b,.pointer (some ⟨B,0,none⟩)] W fun e w'=>e=.returned (.int .i64 (cmpF m a b))∧∃ n o,w'=(W.drewN n).alloc o:=by
 have hl:=fun k d=>IMapAt.look1 (P:=prog) (E:=2) (w:=W.drewN k) hm underlying272 underlying3 (zero2 _) d
 have C:=Hd (fun k=>cmp64_any ((mget m a).getD 0) ((mget m b).getD 0) (W.drewN k))
 have D:=Hd (fun k=>cmpint_any a b (W.drewN k))
 unfold cmpF;generalize cmp3 ((mget m a).getD 0) ((mget m b).getD 0)=x at *;generalize cmp3 a b=y at *
 obtain ⟨z,hz⟩:∃ z,z=(if x≠0 then x else y):=⟨_,rfl⟩
 rw [← hz];replace hz:=Hd hz
 go_enter func254,ntmps254
 go_wp2
 refine region_tailC (C:=fun w'=>∃ k,w'=(W).drewN k) 16 ?_ ?_ ?_ ?_;(kernel_rfl);(kernel_rfl);(first | exact cls0 _ | exact clsN _ _);simp only [List.take_succ_cons,List.take_zero,List.drop_succ_cons,List.drop_zero];(repeat (go_big_quiet_step (first | (go_at_call 256;exact quiet_left (C.out _)) | (go_at_call 257;exact quiet_left (D.out _)))));refine wpQuiet_nil ?_;rintro _ ⟨nq,rfl⟩
 have E:=(or2_any x y ((W.drewN nq).alloc (.cells #[.int .i64 x,.int .i64 y] 3)) W.heap.size 2 (by exact (Blk.new (W.drewN nq) _ _).cell 0) (by exact (Blk.new (W.drewN nq) _ _).cell 1))
 rw [← hz.out] at E;replace E:=Hd E;go_wp2_with fail;refine E.out.mono ?_;rintro e w1 ⟨rfl,rfl⟩;go_wp2;go_returns
 exact ⟨rfl,nq,_,rfl⟩
end Go.Proofs.YtiocbpabbjgkhaaGreatDoor
namespace Go.Proofs
open Go.Shelf
def Tryz.laysSort_ren:Go.Shelf.Ren:=⟨fun | 6=>253 | 15=>308 | 14=>307 | 28=>347 | 29=>306 | 20=>339 | 21=>340 | 22=>341 | 23=>342 | 24=>343 | 25=>344 | 26=>345 | 27=>346 | 46=>357 | 47=>358 | 48=>359 | 49=>360 | 50=>361 | 57=>365 | n=>n,fun | 22=>65 | 24=>3 | 25=>336 | 3=>3 | 39=>331 | 0=>0 | 53=>390 | 55=>37 | 4=>4 | 46=>384 | 45=>383 | 50=>86 | 5=>5 | 9=>9 | 66=>394 | 70=>398 | 76=>400 | 77=>401 | n=>n,fun | n=>n⟩
theorem Tryz.laysSort:Go.Proofs.SlLaysF.n6 Tryz.prog Tryz.laysSort_ren:={
 mixed:=by kernel_rfl
 f6:=⟨Tryz.f253.name,by decide,Tryz.func253.trans (congrArg some (by kernel_rfl))⟩
 f14:=⟨Tryz.f307.name,by decide,Tryz.func307.trans (congrArg some (by kernel_rfl))⟩
 f15:=Tryz.func308.trans (congrArg some (by kernel_rfl))
 f20:=⟨Tryz.f339.name,by decide,Tryz.func339.trans (congrArg some (by kernel_rfl))⟩
 f21:=⟨Tryz.f340.name,by decide,Tryz.func340.trans (congrArg some (by kernel_rfl))⟩
 f22:=⟨Tryz.f341.name,by decide,Tryz.func341.trans (congrArg some (by kernel_rfl))⟩
 f23:=⟨Tryz.f342.name,by decide,Tryz.func342.trans (congrArg some (by kernel_rfl))⟩
 f24:=⟨Tryz.f343.name,by decide,Tryz.func343.trans (congrArg some (by kernel_rfl))⟩
 f25:=⟨Tryz.f344.name,by decide,Tryz.func344.trans (congrArg some (by kernel_rfl))⟩
 f26:=⟨Tryz.f345.name,by decide,Tryz.func345.trans (congrArg some (by kernel_rfl))⟩
 f27:=⟨Tryz.f346.name,by decide,Tryz.func346.trans (congrArg some (by kernel_rfl))⟩
 f28:=Tryz.func347.trans (congrArg some (by kernel_rfl))
 f29:=Tryz.func306.trans (congrArg some (by kernel_rfl))
 f46:=⟨Tryz.f357.name,by decide,Tryz.func357.trans (congrArg some (by kernel_rfl))⟩
 f47:=Tryz.func358.trans (congrArg some (by kernel_rfl))
 f48:=Tryz.func359.trans (congrArg some (by kernel_rfl))
 f49:=⟨Tryz.f360.name,by decide,Tryz.func360.trans (congrArg some (by kernel_rfl))⟩
 f50:=⟨Tryz.f361.name,by decide,Tryz.func361.trans (congrArg some (by kernel_rfl))⟩
 f57:=⟨Tryz.f365.name,by decide,Tryz.func365.trans (congrArg some (by kernel_rfl))⟩
 t0:=Tryz.underlying0
 a0:=Tryz.isAgg0
 z0:=Tryz.sizeOf0
 v0:=Tryz.zeroValue0
 t3:=Tryz.underlying3
 a3:=Tryz.isAgg3
 z3:=Tryz.sizeOf3
 v3:=Tryz.zeroValue3
 t4:=Tryz.underlying4
 a4:=Tryz.isAgg4
 z4:=Tryz.sizeOf4
 v4:=Tryz.zeroValue4
 t5:=Tryz.underlying5
 a5:=Tryz.isAgg5
 z5:=Tryz.sizeOf5
 v5:=Tryz.zeroValue5
 t9:=Tryz.underlying9
 a9:=Tryz.isAgg9
 z9:=Tryz.sizeOf9
 v9:=Tryz.zeroValue9
 t22:=Tryz.underlying65
 a22:=Tryz.isAgg65
 z22:=Tryz.sizeOf65
 v22:=Tryz.zeroValue65
 a24:=Tryz.isAgg3
 z24:=Tryz.sizeOf3
 t25:=Tryz.underlying336
 a25:=Tryz.isAgg336
 z25:=Tryz.sizeOf336
 v25:=Tryz.zeroValue336
 t39:=Tryz.underlying331
 a39:=Tryz.isAgg331
 z39:=Tryz.sizeOf331
 v39:=Tryz.zeroValue331
 t45:=Tryz.underlying383
 a45:=Tryz.isAgg383
 z45:=Tryz.sizeOf383
 v45:=Tryz.zeroValue383
 t46:=Tryz.underlying384
 a46:=Tryz.isAgg384
 z46:=Tryz.sizeOf384
 v46:=Tryz.zeroValue384
 t50:=Tryz.underlying86
 a50:=Tryz.isAgg86
 z50:=Tryz.sizeOf86
 v50:=Tryz.zeroValue86
 t53:=Tryz.underlying390
 a53:=Tryz.isAgg390
 z53:=Tryz.sizeOf390
 v53:=Tryz.zeroValue390
 t55:=Tryz.underlying37
 a55:=Tryz.isAgg37
 z55:=Tryz.sizeOf37
 v55:=Tryz.zeroValue37
 t66:=Tryz.underlying394
 a66:=Tryz.isAgg394
 z66:=Tryz.sizeOf394
 v66:=Tryz.zeroValue394
 t70:=Tryz.underlying398
 a70:=Tryz.isAgg398
 z70:=Tryz.sizeOf398
 v70:=Tryz.zeroValue398
 t76:=Tryz.underlying400
 a76:=Tryz.isAgg400
 z76:=Tryz.sizeOf400
 v76:=Tryz.zeroValue400
 t77:=Tryz.underlying401
 a77:=Tryz.isAgg401
 z77:=Tryz.sizeOf401
 v77:=Tryz.zeroValue401 }
end Go.Proofs
namespace Go.Proofs.YtiocbpabbjgkhaaGreatDoor
open Go.RowKit Go.Proofs.Tryz
variable {w w' : World} {F : Nat → Prop} {p : Nat}
section
open Go.Sort Go.Shelf
theorem ltW_iff (m:List (Int × Int)) (x y:Int):ltOf (cmpF m) x y=decide ((mget m x).getD 0 < (mget m y).getD 0∨((mget m x).getD 0=(mget m y).getD 0∧x < y)):=by
 unfold ltOf cmpF cmp3;generalize (mget m x).getD 0=a;generalize (mget m y).getD 0=b;rw [decide_eq_decide]
 repeat' split
 all_goals omega
theorem swoW (m:List (Int × Int)):SWO (ltOf (cmpF m)) where
 irrefl x:=by rw [ltW_iff];simp
 trans x y z h1 h2:=by rw [ltW_iff] at *;simp at *;omega
 ntrans x y z h1 h2:=by rw [ltW_iff] at *;simp at *;omega
theorem totW (m:List (Int × Int)) (x y:Int) (h1:ltOf (cmpF m) x y=false) (h2:ltOf (cmpF m) y x=false):x=y:=by
 rw [ltW_iff] at *
 simp at h1 h2
 omega
def sortedF (m:List (Int × Int)):List Int→List Int
 | []=>[]
 | x::t=>(x::t).mergeSort fun a b=>!(ltOf (cmpF m) b a)
theorem sortedF_perm (m:List (Int × Int)) (l:List Int):(sortedF m l).Perm l:=by
 cases l with
 | nil=>exact List.Perm.refl _
 | cons x t=>exact List.mergeSort_perm _ _
theorem sortedF_len (m:List (Int × Int)) (l:List Int):(sortedF m l).length=l.length:=(sortedF_perm m l).length_eq
theorem ch_sortWorld (w:World) (g n:Nat) (d:Array Int) (os:Array Obj):Ch (fun b=>b=g) w (sortWorld encN w g 0 n d os):=by
 have h1:Ch (fun b=>b=g) w (putRow encN (w.drewN n) g 0 d):=((Ch.refl _ w).drewN n).trans (putRow_ch encN (w.drewN n) g 0 d)
 have h2:Below (putRow encN (w.drewN n) g 0 d).heap.size (putRow encN (w.drewN n) g 0 d) (grow (putRow encN (w.drewN n) g 0 d) os):=⟨rfl,rfl,rfl,by show _≤(_++os).size;rw [Array.size_append];omega,fun _ hj=>Sort.heap_grow_old _ os hj⟩
 exact h1.trans (Ch.of_below h2)
theorem wsorted_any (w:World) {F F2:Nat→Prop} {s:Wheel} (h:WheelAt w F p s) (v:Value) (l:List Int) (hv:IntsAt w F2 v l) (hl8:l.length≤1099511627776):Calls prog 178 #[.pointer (some ⟨p,0,none⟩),v] w fun e w'=>(∃ v',e=.returned v'∧IntsAt w' (New w) v' (sortedF s.dues l))∧Below w.heap.size w w':=by
 have A:=Hd (ints_clone (w.alloc (.cells #[.pointer (some ⟨p,0,none⟩)] 171)) (hv.ch ((Ch.refl (fun _=>False) w).alloc _) (fun _ _ h=>h)) hl8)
 obtain ⟨mb,sv,c,h⟩:=h
 have c1:w.cell? ⟨p,1,none⟩=some (.map (some mb)):=by rw [h.head.cell];rfl
 have hlp:=h.head.lt;have hlm:=h.map.lt;have hm:=Hd h.map
 obtain ⟨base0,cap0,rfl⟩:=RowAt.form hv
 clear h hv
 go_enter func178,ntmps178
 go_wp2_with fail;refine A.out.mono ?_;rintro e w1 ⟨⟨v',rfl,hv'⟩,hb⟩;have hs0:=hb.size
 simp only [World.size_alloc] at hs0
 have hbw:Below w.heap.size w w1:=((Below.refl w.heap.size w).alloc (Nat.le_refl _) _).trans (hb.mono (by simp))
 have hB1:w1.cell? ⟨w.heap.size,0,none⟩=some (.pointer (some ⟨p,0,none⟩)):=keepcell hb (cell_at1 _ _ rfl)
 cases hl:l with
 | nil =>
  subst hl
  obtain ⟨base,cap,rfl⟩:=RowAt.form hv'
  have D:=Hd (AnyF.slices_SortFunc_none (P:=prog) (ρ:=laysSort_ren) { laysSort with } base cap (.func (.func 254) #[] #[.pointer (some ⟨w.heap.size,0,none⟩)]) w1)
  replace hv':=Hd hv';replace hbw:=Hd hbw;go_wp2_with fail;refine (D.out).mono ?_;rintro e w2 ⟨rfl,rfl⟩;go_wp2;go_returns
  exact ⟨⟨_,rfl,hv'.out.mono (fun b hb=>by unfold New at *;simp at hb;omega)⟩,hbw.out⟩
 | cons x t =>
  rw [← hl]
  have hpos:0 < l.length:=by rw [hl];simp
  have hsf:sortedF s.dues l=l.mergeSort (fun a b=>!(ltOf (cmpF s.dues) b a)):=by rw [hl];rfl
  clear hl;obtain ⟨h1,base,cap,rfl,h3,h4,h5⟩:=hv'
  rcases h5 with ⟨h5,_⟩ | ⟨g,cs,rfl,hgb,h6,h7,h8⟩
  ·omega
  have hg0:w.heap.size+1≤g:=by unfold New at h8;simpa using h8
  have hH:=holds_ints hgb (by simpa using h7)
  have hcmp:CmpLays1 prog 254 #[.pointer (some ⟨w.heap.size,0,none⟩)] encN (cmpF s.dues) g 0 l.toArray.size w1:=by
   intro m os dk hdk x y
   have hch:=ch_sortWorld w1 g m dk os
   have k1:=keepch hch hB1 (by show ¬ _=g;omega)
   have k2:=keepch hch (keepcell hbw c1) (by show ¬ _=g;omega)
   have k3:IMapAt (sortWorld encN w1 g 0 m dk os) mb s.dues:=(hm.out.ch (Ch.off hbw) (fun h=>h)).ch hch (by show ¬ _=g;omega)
   refine (wcmp_any x y _ w.heap.size p mb s.dues k1 k2 k3).mono ?_;rintro e w' ⟨he,n,o,hw⟩
   exact ⟨he,n,#[o],by rw [hw,alloc_eq_grow]⟩
  have D:=Hd (Any.slices_SortFunc_total (P:=prog) (ρ:=laysSort_ren) laysSort encN oneN (cmpF s.dues) (swoW _) 254 #[.pointer (some ⟨w.heap.size,0,none⟩)] g 0 cap l.toArray w1 (enters_of func254 (by kernel_rfl) rfl) hcmp hH hgb.lt (by simp;omega) (totW _))
  have hgb':=Hd hgb;replace hbw:=Hd hbw;replace h7:=Hd h7;clear hcmp hH hgb hm;go_wp2_with fail;refine (D.out).mono ?_;rintro e w2 ⟨rfl,n,os,rfl⟩;go_wp2;go_returns;rw [hsf]
  have hch:=ch_sortWorld w1 g n (l.mergeSort (fun a b=>!(ltOf (cmpF s.dues) b a))).toArray os
  have hlen:(l.mergeSort (fun a b=>!(ltOf (cmpF s.dues) b a))).length=l.length:=(List.mergeSort_perm _ _).length_eq
  have hcs:l.length≤cs.size:=by simp at h6;omega
  refine ⟨⟨_,rfl,?_⟩,hbw.out.trans (hch.below hbw.out.size (fun k hk e=>by have e:k=g:=e;omega))⟩
  have hblk:Blk (sortWorld encN w1 g 0 n (l.mergeSort (fun a b=>!(ltOf (cmpF s.dues) b a))).toArray os) g (putCells encN 0 (l.mergeSort (fun a b=>!(ltOf (cmpF s.dues) b a))).toArray cs) 3:=by
   have h1:=putRow_blk encN (w:=w1.drewN n) (hgb'.out) (l.mergeSort (fun a b=>!(ltOf (cmpF s.dues) b a))).toArray
   have h2:Below (putRow encN (w1.drewN n) g 0 (l.mergeSort (fun a b=>!(ltOf (cmpF s.dues) b a))).toArray).heap.size (putRow encN (w1.drewN n) g 0 (l.mergeSort (fun a b=>!(ltOf (cmpF s.dues) b a))).toArray) (grow (putRow encN (w1.drewN n) g 0 (l.mergeSort (fun a b=>!(ltOf (cmpF s.dues) b a))).toArray) os):=⟨rfl,rfl,rfl,by show _≤(_++os).size;rw [Array.size_append];omega,fun _ hj=>Sort.heap_grow_old _ os hj⟩
   exact h1.ch (Ch.off h2) (fun h=>h)
  rw [List.size_toArray]
  refine hlen ▸ RowAt.of_blk hblk (show New w g by unfold New;omega) (by simp) (by omega) h4 (by rw [putCells_size];omega) ?_
  rw [Nat.mul_one,putCells_take _ _ _ (by simp;omega) _ (by simp),List.take_of_length_le (by simp)]
  rfl
def wheelReady (s:Wheel):List Int:=s.ls.getD 168 []
def wheelDue (s:Wheel):List Int:=sortedF s.dues (wheelReady s)
theorem wdue_any (w:World) {s:Wheel} (h:WheelAt w F p s) (hl8:(wheelReady s).length≤1099511627776):Calls prog 95 #[.pointer (some ⟨p,0,none⟩)] w fun e w'=>(∃ v',e=.returned v'∧IntsAt w' (New w) v' (wheelDue s))∧Below w.heap.size w w':=by
 have HT:=h;obtain ⟨mb,sv,c,h⟩:=h
 have c1:w.cell? ⟨p,170,none⟩=some (sv 168):=by rw [h.head.cell];exact wheelCells_get _ _ _ 168 (by omega)
 have hI:=h.ls 168 (by omega)
 have A:=Hd (wsorted_any w HT (sv 168) (wheelReady s) hI hl8)
 clear HT h;unfold wheelDue
 obtain ⟨base,cap,hsv⟩:=RowAt.form hI
 rw [hsv] at A c1;clear hI hsv
 go_enter func95,ntmps95
 go_wp2_with fail;refine A.out.mono ?_;rintro e w1 ⟨⟨v',rfl,hv'⟩,hb⟩
 obtain ⟨base',cap',rfl⟩:=RowAt.form hv'
 replace hv':=Hd hv';replace hb:=Hd hb;go_wp2;go_returns
 exact ⟨⟨_,rfl,hv'.out⟩,hb.out⟩
end
structure Irq where
 wanted:Bool
 masked:Bool
 pending:Bool
 mask:Nat
structure Irqs where
 all:List Irq
 cpus:Nat
def irqL (x:Irq):List Value:=[.bool x.wanted,.bool x.masked,.bool x.pending,.int .u64 x.mask]
theorem irqL_len (x:Irq):(irqL x).length=4:=rfl
def noIrq:Irq:=⟨false,false,false,0⟩
structure IrqsAt (w:World) (F:Nat→Prop) (p:Nat) (t:Irqs):Prop where
 head:Blk w p ((t.all.flatMap irqL)++[Value.int .u64 t.cpus]).toArray 218
 fp:F p
 len:t.all.length=16
 lc:t.cpus < top64
 lm:∀ x∈t.all,x.mask < top64
theorem IrqsAt.ch {F G:Nat→Prop} {t:Irqs} (h:IrqsAt w F p t) (hc:Ch G w w') (hd:∀ b,F b→¬ G b):IrqsAt w' F p t:=⟨h.head.ch hc (hd _ h.fp),h.fp,h.len,h.lc,h.lm⟩
theorem IrqsAt.mono {F G:Nat→Prop} {t:Irqs} (h:IrqsAt w F p t) (hd:∀ b,F b→G b):IrqsAt w G p t:=⟨h.head,hd _ h.fp,h.len,h.lc,h.lm⟩
theorem IrqsAt.below {t:Irqs} (h:IrqsAt w F p t) (hb:Below w.heap.size w w'):IrqsAt w' F p t:=h.ch (Ch.off hb) (fun _ _ h=>h)
theorem IrqsAt.cell {t:Irqs} (h:IrqsAt w F p t) {i:Nat} {x:Irq} (hx:t.all[i]? = some x) (j:Nat) (hj:j < 4):w.cell? ⟨p,i*4+j,none⟩=(irqL x)[j]?:=by
 have hi:i < t.all.length:=(List.getElem?_eq_some_iff.1 hx).1
 rw [h.head.cell,List.getElem?_toArray,List.getElem?_append_left (by rw [flat_len irqL_len];omega),flat_get irqL_len t.all i j x hx hj]
theorem IrqsAt.cc {t:Irqs} (h:IrqsAt w F p t):w.cell? ⟨p,64,none⟩=some (.int .u64 t.cpus):=by
 rw [h.head.cell,List.getElem?_toArray,List.getElem?_append_right (by rw [flat_len irqL_len,h.len];omega),flat_len irqL_len,h.len]
 rfl
theorem IrqsAt.get {t:Irqs} (h:IrqsAt w F p t) {i:Nat} (hi:i < 16):t.all[i]? = some (t.all.getD i noIrq):=getD_some (by rw [h.len];exact hi)
theorem IrqsAt.set {t:Irqs} (h:IrqsAt w F p t) {i:Nat} {x:Irq} (hx:t.all[i]? = some x) (j:Nat) (hj:j < 4) (y:Irq) (v:Value) (hy:irqL y=(irqL x).set j v) (hm:y.mask < top64):IrqsAt (w.setCell ⟨p,i*4+j,none⟩ v) F p ⟨t.all.set i y,t.cpus⟩:=by
 have hi:i < t.all.length:=(List.getElem?_eq_some_iff.1 hx).1
 refine ⟨?_,h.fp,by simpa using h.len,h.lc,fun z hz=>(List.mem_or_eq_of_mem_set hz).elim (h.lm z) (fun e=>e ▸ hm)⟩
 rw [← flat_set irqL_len t.all i j x y v hx hj hy]
 have:=h.head.set (i*4+j) v
 rwa [List.setIfInBounds_toArray,List.set_append_left _ _ (by rw [flat_len irqL_len];omega)] at this
theorem ifind_no (w:World) (p:Nat) (n:Int) (hm:mayF 16 n=3):Calls prog 180 #[.pointer (some ⟨p,0,none⟩),.int .i64 n] w fun e w'=>e=.returned (.tuple #[.pointer none,.int .i64 3])∧w=w':=by
 rcases may_cases 16 n with ⟨h1,e⟩ | ⟨h1,h2,e⟩ | ⟨i,rfl,h2,e⟩
 ·clear hm e
  go_enter func180,ntmps180
  go_wp2;go_returns
  exact ⟨rfl,rfl⟩
 ·clear hm e
  go_enter func180,ntmps180
  go_wp2;go_returns
  exact ⟨rfl,rfl⟩
 ·rw [e] at hm;cases hm
theorem ifind_yes (w:World) (p i:Nat) (hi:i < 16) (n:Int) (hn:n=i):Calls prog 180 #[.pointer (some ⟨p,0,none⟩),.int .i64 n] w fun e w'=>e=.returned (.tuple #[.pointer (some ⟨p,i*4,none⟩),.int .i64 0])∧w=w':=by
 subst hn
 go_enter func180,ntmps180
 go_wp2;go_returns
 exact ⟨rfl,rfl⟩
def irqAt (t:Irqs) (n:Int):Irq:=t.all.getD n.toNat noIrq
def irqWhy (t:Irqs) (n:Int):Int:=if mayF 16 n≠0 then 3 else if (irqAt t n).wanted then 0 else 4
theorem irqWhy_cases (t:Irqs) (n:Int):(mayF 16 n=3∧irqWhy t n=3)∨(∃ i:Nat,n=i∧i < 16∧(t.all.getD i noIrq).wanted=false∧irqWhy t n=4∧mayF 16 n=0)∨(∃ i:Nat,n=i∧i < 16∧(t.all.getD i noIrq).wanted=true∧irqWhy t n=0∧mayF 16 n=0):=by
 unfold irqWhy irqAt
 by_cases hm:mayF 16 n=0
 ·obtain ⟨i,rfl,hi⟩:=may_yes hm
  rw [if_neg (by simp [hm]),Int.toNat_natCast]
  cases hw:(t.all.getD i noIrq).wanted with
  | false=>exact .inr (.inl ⟨i,rfl,hi,hw,rfl,hm⟩)
  | true=>exact .inr (.inr ⟨i,rfl,hi,hw,rfl,hm⟩)
 ·exact .inl ⟨may_no hm,by rw [if_pos hm]⟩
theorem iwanted_any (w:World) {t:Irqs} (h:IrqsAt w F p t) (n:Int):Calls prog 100 #[.pointer (some ⟨p,0,none⟩),.int .i64 n] w fun e w'=>e=.returned (.tuple #[.pointer (if irqWhy t n=0 then some ⟨p,n.toNat*4,none⟩ else none),.int .i64 (irqWhy t n)])∧w=w':=by
 rcases irqWhy_cases t n with ⟨hm,e⟩ | ⟨i,rfl,hi,hw,e,-⟩ | ⟨i,rfl,hi,hw,e,-⟩
 ·have A:=Hd (ifind_no w p n hm)
  rw [e,if_neg (by simp)];clear e hm h
  go_enter func100,ntmps100
  go_wp2_with fail;refine A.out.mono ?_;rintro e w1 ⟨rfl,rfl⟩;go_wp2;go_returns
  exact ⟨rfl,rfl⟩
 all_goals
  have A:=Hd (ifind_yes w p i hi i rfl)
  have k0:=h.cell (h.get hi) 0 (by omega)
  rw [e];clear e h;generalize t.all.getD i noIrq=x at *
  simp [irqL,hw] at k0
  clear hw
  simp only [Int.toNat_natCast]
  go_enter func100,ntmps100
  go_wp2_with fail;refine A.out.mono ?_;rintro e w1 ⟨rfl,rfl⟩;go_wp2;go_returns
  exact ⟨rfl,rfl⟩
theorem iright_any (w:World) {t:Irqs} (h:IrqsAt w F p t) (m:Nat) (hm:m < top64):Calls prog 227 #[.pointer (some ⟨p,0,none⟩),.int .u64 m] w fun e w'=>e=.returned (.bool (decide (m≠0) && withinF m t.cpus))∧w=w':=by
 have A:=Hd (within_any m t.cpus hm h.lc w);have cc:=h.cc;clear h
 by_cases h0:m=0
 ·subst h0
  go_enter func227,ntmps227
  go_wp2;go_returns
  exact ⟨rfl,rfl⟩
 ·have e0:((m:Int) != 0)=true:=by simpa using h0
  rw [decide_eq_true h0,Bool.true_and];generalize withinF m t.cpus=b at *;clear h0
  go_enter func227,ntmps227
  go_wp2_with fail;refine A.out.mono ?_;rintro e w1 ⟨rfl,rfl⟩;go_wp2;go_returns
  exact ⟨rfl,rfl⟩
def irqSet (t:Irqs) (n:Int) (f:Irq→Irq):Irqs:=⟨t.all.set n.toNat (f (t.all.getD n.toNat noIrq)),t.cpus⟩
def irqGet (t:Irqs) (n:Int):Irq:=if mayF 16 n≠0 then noIrq else irqAt t n
theorem iget_any (w:World) {t:Irqs} (h:IrqsAt w F p t) (n:Int):Calls prog 228 #[.pointer (some ⟨p,0,none⟩),.int .i64 n] w fun e w'=>e=.returned (.tuple #[.agg (irqL (irqGet t n)).toArray,.int .i64 (mayF 16 n)])∧Below w.heap.size w w':=by
 by_cases hm:mayF 16 n=0
 ·obtain ⟨i,rfl,hi⟩:=may_yes hm
  have e:irqGet t i=t.all.getD i noIrq:=by unfold irqGet irqAt;rw [if_neg (by simp [hm]),Int.toNat_natCast]
  rw [e,hm];have A:=Hd (fun w=>ifind_yes w p i hi i rfl)
  have hx:=h.get hi
  have k0:=h.cell hx 0 (by omega)
  have k1:=h.cell hx 1 (by omega)
  have k2:=h.cell hx 2 (by omega)
  have k3:=h.cell hx 3 (by omega)
  have hlt:=h.head.lt;clear e hm h hx;generalize t.all.getD i noIrq=x at *
  simp [irqL] at k0 k1 k2 k3
  go_enter func228,ntmps228
  go_wp2_with fail;refine (A.out _).mono ?_;rintro e w1 ⟨rfl,hw⟩;subst hw;go_wp2
  refine bodyPost_ret (v:=.tuple #[.agg (irqL x).toArray,.int .i64 0]) (by simp [results,results228,go_sem,irqL]) rfl ⟨rfl,?_⟩
  exact (Ch.isBelow (by (repeat (first | with_reducible exact Ch.refl _ _ | (with_reducible refine Ch.alloc ?_ _) | (with_reducible refine Ch.drew ?_) | (with_reducible refine Ch.drewN ?_ _) | (refine Ch.setCell ?_ (fun h=>absurd h (by simp)) _)))))
 ·have A:=Hd (fun w=>ifind_no w p n (may_no hm))
  have e:irqGet t n=noIrq:=by unfold irqGet;rw [if_pos hm]
  rw [e,may_no hm];clear e h hm
  go_enter func228,ntmps228
  go_wp2_with fail;refine (A.out _).mono ?_;rintro e w1 ⟨rfl,hw⟩;subst hw;go_wp2
  refine bodyPost_ret (v:=.tuple #[.agg (irqL noIrq).toArray,.int .i64 3]) (by simp [results,results228,go_sem,irqL,noIrq]) rfl ⟨rfl,?_⟩
  exact (Ch.isBelow (by (repeat (first | with_reducible exact Ch.refl _ _ | (with_reducible refine Ch.alloc ?_ _) | (with_reducible refine Ch.drew ?_) | (with_reducible refine Ch.drewN ?_ _) | (refine Ch.setCell ?_ (fun h=>absurd h (by simp)) _)))))
end Go.Proofs.YtiocbpabbjgkhaaGreatDoor
