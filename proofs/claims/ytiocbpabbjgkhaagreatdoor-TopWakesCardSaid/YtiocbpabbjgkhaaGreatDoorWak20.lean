/- Part 20 of the proof: contracts and plain laws, each under the conditions that it names. -/
import Derived.Test.YtiocbpabbjgkhaaGreatDoorWak19
import Derived.Deep.RegionHeld
import Derived.Deep.Cut
set_option maxRecDepth 100000
set_option maxHeartbeats 20000000
set_option linter.unusedVariables false
set_option linter.unusedSimpArgs false
namespace Go.Proofs.YtiocbpabbjgkhaaGreatDoor
open Go.RowKit Go.Proofs.Tryz
variable {w w' : World} {F : Nat → Prop} {p : Nat} {f : KF} {k : K}
section
open Go.Proofs.YtiocbpabbjgkhaaGreatDoor.NumD
theorem ints_bx {w w1:World} (h:KAt w F p f k) {v:Value} {l:List Int} (hv:IntsAt w1 (New w) v l):∃ base cap g cs,v=.slice base l.length cap∧l.length≤maxLen∧(0 < l.length→base=some ⟨g,0,none⟩∧Bx w1 F g cs 3∧∀ j,j < l.length→cs[j]? = some (.int .i64 (l.getD j 0))):=by
 have hm:=hv.len;obtain ⟨h1,base,cap,rfl,h3,h4,h5⟩:=hv
 by_cases hl:0 < l.length
 ·rcases h5 with ⟨h5,_⟩ | ⟨g,cs,rfl,b,c,d,e⟩
  ·omega
  ·refine ⟨_,cap,g,cs,rfl,hm,fun _=>⟨rfl,⟨b,fun e2=>by have:=h.ltF g e2;have e:w.heap.size≤g:=e;omega⟩,fun j hj=>?_⟩⟩
   rw [← Array.getElem?_toList]
   refine take_get d ?_
   simp [List.getD_eq_getElem?_getD,hj]
 ·exact ⟨base,cap,0,#[],rfl,hm,fun e=>absurd e hl⟩
def kAll (g:K→Int→K) (k:K) (l:List Int) (j:Nat):K:=(l.take j).foldl g k
theorem kAll_step (g:K→Int→K) (k:K) (l:List Int) (j:Nat) (hj:j < l.length):kAll g k l (j+1)=g (kAll g k l j) (l.getD j 0):=by
 have hg:l[j]? = some (l.getD j 0):=by rw [List.getD_eq_getElem?_getD,List.getElem?_eq_getElem hj];rfl
 unfold kAll;rw [List.take_add_one,hg,Option.toList_some,List.foldl_append]
 rfl
theorem kAll_zero (g:K→Int→K) (k:K) (l:List Int):kAll g k l 0=k:=by simp [kAll]
theorem kAll_all (g:K→Int→K) (k:K) (l:List Int):kAll g k l l.length=l.foldl g k:=by simp [kAll]
def kHaltB (k:K) (cpu by':Int):K:={ k with st:=(stopBegin k.st (notF (k.active ||| oneF cpu) (oneF by'))).1 }
def kHaltE (k:K) (cpu:Int):K :=
 let k1:=(routeOn k.rt cpu).foldl (fun k n=>kLead k n cpu) k
 { k1 with st:=(stopFree k1.st).1 }
def kHalt (k:K) (cpu by':Int):K × Bool:=if stopOn k.st then (if stopReady k.st then (kHaltE k cpu,true) else (k,false)) else (kHaltB k cpu by',false)
theorem KAt.khalt (h:KAt w F p f k) (cpu by':Int):Calls prog 319 #[.pointer (some ⟨p,0,none⟩),.int .i64 cpu,.int .i64 by'] w fun e w'=>e=.returned (.bool (kHalt k cpu by').2)∧KS w w' F p f (kHalt k cpu by').1:=by
 have A:=h.kson;have c10:=h.h10;have H0:=Hd h;have HK:=Hd h;have HL:=Hd (Lk.refl w F);clear h;unfold kHalt
 cases hon:stopOn k.st with
 | false =>
  rw [hon] at A;replace A:=Hd A;replace hon:=Hd hon;rw [if_neg (by decide)];unfold kHaltB;have hac:=Hd HK.out.ac;have HB:=Hd (Bx.new HK.out #[.int .i64 cpu] 3)
  have HT:=Hd (HK.out.alloc (.cells #[.int .i64 cpu] 3))
  have B1:=Hd (with_one k.active HK.out.ac cpu (w.alloc (.cells #[.int .i64 cpu] 3)).drew w.heap.size 1 (HB.out.cell 0))
  have B2:=Hd (less_any (k.active ||| oneF cpu) (orF_lt _ HK.out.ac cpu) by' (w.alloc (.cells #[.int .i64 cpu] 3)).drew)
  have B3:=Hd ((HT.out.drewN 1).ksbegin (notF (k.active ||| oneF cpu) (oneF by')) (notF_lt _ _ (orF_lt _ HK.out.ac cpu)))
  have c3:=HK.out.hac;have d3:=HT.out.hac;have d10:=HT.out.h10
  go_enter func319,ntmps319
  go_wp2_with fail;refine A.out.mono ?_;rintro e w1 ⟨rfl,rfl⟩
  replace HL:=Hd (HL.out.alloc (.cells #[.int .i64 cpu] 3))
  go_wp2_with fail
  go_region_held3 (fun w'=>w'.cell? ⟨p,10,none⟩=some (.pointer (some ⟨f.pt 10,0,none⟩))∧w'.cell? ⟨p,17,none⟩=some (.int .u64 k.active))
   (first
    | go_keep
    | exact ⟨c10,c3⟩
    | exact ⟨d10,d3⟩
    | exact ⟨S.1.h10,S.1.hac⟩
    | (go_split_ands;refine ⟨?_,?_⟩ <;> first | exact S.1.h10 | exact S.1.hac))
   (first | (go_at_call 189;refine B1.out.mono ?_;rintro e w3 ⟨rfl,rfl⟩) | (go_at_call 162;refine B2.out.mono ?_;rintro e w3 ⟨rfl,rfl⟩) | (go_at_call 352;refine B3.out.mono ?_;rintro e w3 ⟨rfl,S⟩))
  replace HL:=Hd (HL.out.drewN 1);replace S:=S.nx HL.out;clear HL HK;obtain ⟨F1,HK,HL⟩:=S
  try dsimp only at HK
  go_wp2;go_returns
  exact ⟨rfl,HK.out.close HL.out H0.out⟩
 | true =>
  rw [hon] at A;replace A:=Hd A;replace hon:=Hd hon;rw [if_pos rfl];have B:=HK.out.ksready
  cases hr:stopReady k.st with
  | false =>
   rw [hr] at B;replace B:=Hd B;replace hr:=Hd hr;rw [if_neg (by decide)]
   go_enter func319,ntmps319
   go_wp2_with fail;refine A.out.mono ?_;rintro e w1 ⟨rfl,rfl⟩;go_wp2_with fail;refine B.out.mono ?_;rintro e w1 ⟨rfl,nd,rfl⟩;replace HL:=Hd (HL.out.drewN nd);replace HK:=Hd (HK.out.drewN nd);go_wp2;go_returns
   exact ⟨rfl,HK.out.close HL.out H0.out⟩
  | true =>
   rw [hr] at B;replace B:=Hd B;replace hr:=Hd hr;rw [if_pos rfl];unfold kHaltE;dsimp only
   obtain ⟨l,hl⟩:∃ l,l=routeOn k.rt cpu:=⟨_,rfl⟩
   rw [← hl];replace hl:=Hd hl
   obtain ⟨n,hn⟩:∃ n,n=l.length:=⟨_,rfl⟩
   have e:=kAll_all (fun k n=>kLead k n cpu) k l
   rw [← hn] at e;rw [← e];replace e:=Hd e
   go_enter func319,ntmps319
   go_wp2_with fail;refine A.out.mono ?_;rintro e w1 ⟨rfl,rfl⟩;go_wp2_with fail;refine B.out.mono ?_;rintro e w1 ⟨rfl,nd,rfl⟩;clear A B c10;replace HL:=Hd (HL.out.drewN nd);replace HK:=Hd (HK.out.drewN nd)
   have P:=HK.out.koon cpu
   have HN:=HK;have c4:=HK.out.h4;rw [← hl.out] at P;replace P:=Hd P;go_wp2_with fail;refine P.out.mono ?_;rintro e w1 ⟨⟨v,rfl,hv⟩,S⟩
   obtain ⟨base,cap,g,cs,rfl,hm,hb⟩:=ints_bx HN.out hv
   clear hv P HN c4;unfold maxLen at hm;replace HL:=Hd (HL.out.below S);replace HK:=Hd (HK.out.below S);clear S;rw [← hn] at hb hm ⊢;replace hb:=Hd hb;replace hn:=Hd hn;go_wp2
   go_loopw [48,8] (fun iv _ wr=>∃ (j:Nat) (F':Nat→Prop),iv=.int .i64 j∧j≤n∧Hid (KAt wr F' p f (kAll (fun k n=>kLead k n cpu) k l j))∧Hid (Lk w F wr F')∧Hid (0 < n→Bx wr F' g cs 3)) (fun iv _ _=>n - (intOf iv).toNat)
   case atStart=>exact ⟨0,F,rfl,by omega,Hd (by rw [kAll_zero];exact HK.out),HL,Hd (fun e=>(hb.out e).2.1)⟩
   case round =>
    clear HK HL;obtain ⟨j,F',rfl,hj,HK,HL,HB⟩:=hrel
    by_cases hlt:j < n
    ·obtain ⟨rfl,-,hcs⟩:=hb.out (by omega)
     have hc:=(HB.out (by omega)).cell j
     rw [hcs j hlt] at hc
     have hst:=kAll_step (fun k n=>kLead k n cpu) k l j (by rw [← hn.out];exact hlt)
     generalize l.getD j 0=x at hc hst;have P:=Hd (HK.out.klead x cpu);clear hcs;go_wp2_with fail;refine P.out.mono ?_;rintro e w2 ⟨rfl,S⟩;clear P;obtain ⟨F1,L1,K1⟩:=S.open;clear S
     replace HB:=Hd (fun e=>(HB.out e).lk L1)
     replace HL:=Hd (HL.out.trans L1);replace HK:=Hd K1;clear L1 K1;go_wp2;go_roundw
     case rel=>exact ⟨j+1,_,by go_num,hlt,by rw [hst];exact HK,HL,HB⟩
     case measure=>simp [intOf];omega
    ·have:j=n:=by omega
     subst this;clear HB;have P:=Hd (HK.out.ksfree);have c10:=HK.out.h10;go_wp2_with fail;refine P.out.mono ?_;rintro e w1 ⟨rfl,S⟩;clear P c10;replace S:=S.nx HL.out;clear HL HK;obtain ⟨F1,HK,HL⟩:=S
     try dsimp only at HK
     go_wp2;go_returns
     exact ⟨rfl,HK.out.close HL.out H0.out⟩
end
section
section
variable {P : Program} {ops : Array Oper} {Q : Exit → Act → World → Prop} {md : Region.Mode} {S : World → Prop} {late : List Nat}
def early (late:List Nat) (listed:Array Bool):Prop:=∀ j∈late,listed.getD j false=false
def wpLate (P:Program) (md:Region.Mode) (ops:Array Oper) (Q:Exit→Act→World→Prop) (S:World→Prop) (late:List Nat):Nat→Array Bool→Act→World→Prop
 | 0=>fun listed a w=>Region.ready md ops listed=[]∧Q .normal a w
 | n+1=>fun listed a w=>(Region.ready md ops listed=[]→Q .normal a w)∧∀ i,i∈Region.ready md ops listed →
  wpOp P ops Q i (fun b v=>(early late (listed.setIfInBounds i true)→S v)∧wpLate P md ops Q S late n (listed.setIfInBounds i true) b v) a w
theorem wpLate.any:∀ (n:Nat) (listed:Array Bool) (a:Act) (w:World),wpLate P md ops Q S late n listed a w→wpAny P md ops Q n listed a w
 | 0,_,_,_,h=>h
 | n+1,_,_,_,h=>⟨h.1,fun i hi=>wpOp_mono (fun _ _ g=>wpLate.any n _ _ _ g.2) (h.2 i hi)⟩
theorem early.more {listed:Array Bool} {j:Nat} (h:early late listed) (hj:j ∉ late):early late (listed.setIfInBounds j true):=fun x hx=>by
 have e:j≠x:=fun e=>hj (by rw [e];exact hx)
 rw [getD_set_ne false e]
 exact h x hx
theorem ready_off {listed:Array Bool} {i:Nat} (h:i∈Region.ready md ops listed):listed.getD i false=false:=by
 have h0:=(mem_ready.1 h).1
 rcases Nat.lt_or_ge i listed.size with e | e
 ·simpa [e] using h0
 ·simp [Array.getElem?_eq_none e]
theorem wpLate.take {T:World→Prop} {i:Nat} {oi:Oper} {v:Value} (hi:ops[i]? = some oi) (hs:Region.noSelect ops=true) (hil:i ∉ late) (hT:(∀ w,T w)∨((∀ w,S w→T w)∧∀ j,j∈late→∀ oj,ops[j]? = some oj→∃ e∈oj.after,Region.binds md e=true∧e.on=i))
  (hQ:∀ c a w,Q (.panic c) (a.put oi.dst v) w→Q (.panic c) a w):∀ (n:Nat) (listed:Array Bool) (a:Act) (w:World),Region.free md ops listed i=true→i∈Region.ready md ops listed→(∀ w,T w)∨early late listed→YieldsIf P ops T oi v a→T w→(early late (listed.setIfInBounds i true)→S w) →
  wpLate P md ops Q S late n (listed.setIfInBounds i true) (a.put oi.dst v) w→wpLate P md ops Q S late (n+1) listed a w:=by
 suffices H:∀ (n:Nat) (listed:Array Bool) (a:Act) (w:World),(∀ j oj,ops[j]? = some oj→j≠i→listed.getD j true=false→(∀ e∈oj.after,Region.binds md e=true→e.on≠i)→oi.apart ops oj=true) →
   i∈Region.ready md ops listed→(∀ w,T w)∨early late listed→YieldsIf P ops T oi v a→T w→(early late (listed.setIfInBounds i true)→S w)→wpLate P md ops Q S late n (listed.setIfInBounds i true) (a.put oi.dst v) w→wpLate P md ops Q S late (n+1) listed a w from
  fun n listed a w hf=>H n listed a w (Region.free_spec hi hf)
 have sel:=Region.noSelect_spec hs
 intro n
 induction n with
 | zero =>
  intro listed a w _ hr he hy hTw hS h
  refine ⟨fun e=>(by rw [e] at hr;cases hr),fun j hj=>?_⟩
  by_cases e:j=i
  ·subst e
   exact hy.wpOp hi hTw ⟨hS,h⟩
  ·have:=ready_mono hj e
   rw [h.1] at this
   cases this
 | succ n ih =>
  intro listed a w hf hr he hy hTw hS h
  refine ⟨fun e=>(by rw [e] at hr;cases hr),fun j hj=>?_⟩
  by_cases e:j=i
  ·subst e
   exact hy.wpOp hi hTw ⟨hS,h⟩
  ·obtain ⟨hju,oj,hoj,hall⟩:=mem_ready.1 hj
   have hno:∀ x∈oj.after,Region.binds md x=true→x.on≠i:=fun x hx hb ex=>by
    have h1:=hall x hx hb
    rw [ex] at h1
    have h0:=ready_off hr
    rcases Nat.lt_or_ge i listed.size with e1 | e1
    ·simp [e1] at h0 h1
     rw [h0] at h1
     cases h1
    ·simp [Array.getElem?_eq_none e1] at h1
   have h1:=h.2 j (ready_mono hj e)
   have h2:=wpOp_putIf hoj (hf j oj hoj e hju hno) (fun cs b=>sel i oi cs b hi) (fun cs b=>sel j oj cs b hoj) hQ hy h1
   have hf':∀ k ok,ops[k]? = some ok→k≠i→(listed.setIfInBounds j true).getD k true=false→(∀ e∈ok.after,Region.binds md e=true→e.on≠i)→oi.apart ops ok=true:=fun k ok hk hki hu hn=>by
    refine hf k ok hk hki ?_ hn
    by_cases ek:j=k
    ·subst ek;exact hju
    ·rw [getD_set_ne true ek] at hu;exact hu
   refine wpOp_mono (fun b v' g=>?_) h2
   have hS':early late ((listed.setIfInBounds j true).setIfInBounds i true)→S v':=fun hE=>g.2.1 (by rw [Array.setIfInBounds_comm _ _ (Ne.symm e)];exact hE)
   have hg:=g.2.2;rw [Array.setIfInBounds_comm _ _ (Ne.symm e)] at hg
   have hrest:(∀ w,T w)∨(early late (listed.setIfInBounds j true)∧T v'):=by
    rcases hT with hT | ⟨hST,hl⟩
    ·exact .inl hT
    ·rcases he with he | he
     ·exact .inl he
     ·have hjl:j ∉ late:=fun ej=>by
       obtain ⟨x,hx,hb,ex⟩:=hl j ej oj hoj
       exact hno x hx hb ex
      exact .inr ⟨he.more hjl,hST _ (hS' ((he.more hjl).more hil))⟩
   exact ⟨fun hE=>hS' (hE.more hil),ih (listed.setIfInBounds j true) b v' hf' (ready_mono hr (Ne.symm e)) (hrest.imp id And.left) g.1 (hrest.elim (fun h=>h v') And.right) hS' hg⟩
theorem wpLate.cons {listed:Array Bool} {a:Act} {n:Nat} {rs:List Nat} (hr:Region.ready md ops listed=rs) (hne:rs≠[])
  (h:∀ i,i∈rs→wpOp P ops Q i (fun b v=>(early late (listed.setIfInBounds i true)→S v)∧wpLate P md ops Q S late n (listed.setIfInBounds i true) b v) a w):wpLate P md ops Q S late (n+1) listed a w :=
 ⟨fun e=>absurd (hr ▸ e) hne,fun i hi=>h i (hr ▸ hi)⟩
theorem late_step {listed:Array Bool} {a:Act} {n i:Nat} {o:Oper} (ho:ops[i]? = some o)
  (h:∀ K':Act→World→Prop,Shut (∀ b v,(early late (listed.setIfInBounds i true)→S v)→wpLate P md ops Q S late n (listed.setIfInBounds i true) b v→K' b v)→if Region.wanted o (yielded ops a.tmps)=true then Oper.wp P o a w K' Q else K' (a.put o.dst undef) w) :
  wpOp P ops Q i (fun b v=>(early late (listed.setIfInBounds i true)→S v)∧wpLate P md ops Q S late n (listed.setIfInBounds i true) b v) a w :=
 wpOp_step ho (fun K' hK=>h K' (fun b v hS hW=>hK b v ⟨hS,hW⟩))
theorem wpLate.take1 {n:Nat} {listed:Array Bool} {a:Act} {i:Nat} {oi:Oper} {v:Value} (hi:ops[i]? = some oi) (hs:Region.noSelect ops=true) (hl:late.all (fun j=>match ops[j]? with | none=>true | some o=>o.after.any fun e=>Region.binds md e && e.on == i)=true) (hil:late.contains i=false)
  (hf:Region.free md ops listed i=true) (hr:(Region.ready md ops listed).contains i=true) (he:late.all (fun j=>!listed.getD j false)=true) (hQ:∀ c a w,Q (.panic c) (a.put oi.dst v) w→Q (.panic c) a w) (hy:YieldsIf P ops S oi v a) (hS:S w)
  (h:wpLate P md ops Q S late n (listed.setIfInBounds i true) (a.put oi.dst v) w):wpLate P md ops Q S late (n+1) listed a w:=by
 refine wpLate.take (T:=S) hi hs (fun e=>?_) (.inr ⟨fun _ h=>h,fun j hj oj hoj=>?_⟩) hQ n listed a w hf (by simpa using hr) (.inr fun j hj=>?_) hy hS (fun _=>hS) h
 ·rw [List.contains_iff_mem.2 e] at hil
  cases hil
 ·have h1:=List.all_eq_true.1 hl j hj
  rw [hoj] at h1
  obtain ⟨e,he1,he2⟩:=Array.any_eq_true'.1 h1
  rw [Bool.and_eq_true,beq_iff_eq] at he2
  exact ⟨e,he1,he2⟩
 ·simpa using List.all_eq_true.1 he j hj
theorem wpLate.take0 {n:Nat} {listed:Array Bool} {a:Act} {i:Nat} {oi:Oper} {v:Value} (hi:ops[i]? = some oi) (hs:Region.noSelect ops=true) (hil:late.contains i=false)
  (hf:Region.free md ops listed i=true) (hr:(Region.ready md ops listed).contains i=true) (hQ:∀ c a w,Q (.panic c) (a.put oi.dst v) w→Q (.panic c) a w) (hy:YieldsIf P ops (fun _=>True) oi v a) (hS:early late (listed.setIfInBounds i true)→S w)
  (h:wpLate P md ops Q S late n (listed.setIfInBounds i true) (a.put oi.dst v) w):wpLate P md ops Q S late (n+1) listed a w:=by
 refine wpLate.take (T:=fun _=>True) hi hs (fun e=>?_) (.inl fun _=>trivial) hQ n listed a w hf (by simpa using hr) (.inl fun _=>trivial) hy trivial hS h
 rw [List.contains_iff_mem.2 e] at hil
 cases hil
theorem wpLate.one {n i:Nat} {o:Oper} {listed:Array Bool} {a:Act} (hr:Region.ready md ops listed=[i]) (ho:ops[i]? = some o)
  (h:∀ K':Act→World→Prop,Shut (∀ b v,(early late (listed.setIfInBounds i true)→S v)→wpLate P md ops Q S late n (listed.setIfInBounds i true) b v→K' b v)→if Region.wanted o (yielded ops a.tmps)=true then Oper.wp P o a w K' Q else K' (a.put o.dst undef) w):wpLate P md ops Q S late (n+1) listed a w :=
 .cons hr (by simp) fun x hx=>by rw [List.mem_singleton.1 hx];exact late_step ho h
theorem wpLate.two {n i j:Nat} {o o':Oper} {listed:Array Bool} {a:Act} (hr:Region.ready md ops listed=[i,j]) (ho:ops[i]? = some o) (ho':ops[j]? = some o')
  (h:∀ K':Act→World→Prop,Shut (∀ b v,(early late (listed.setIfInBounds i true)→S v)→wpLate P md ops Q S late n (listed.setIfInBounds i true) b v→K' b v)→if Region.wanted o (yielded ops a.tmps)=true then Oper.wp P o a w K' Q else K' (a.put o.dst undef) w)
  (h':∀ K':Act→World→Prop,Shut (∀ b v,(early late (listed.setIfInBounds j true)→S v)→wpLate P md ops Q S late n (listed.setIfInBounds j true) b v→K' b v)→if Region.wanted o' (yielded ops a.tmps)=true then Oper.wp P o' a w K' Q else K' (a.put o'.dst undef) w):wpLate P md ops Q S late (n+1) listed a w :=
 .cons hr (by simp) fun x hx=>by
  rcases List.mem_cons.1 hx with rfl | hx
  ·exact late_step ho h
  ·rw [List.mem_singleton.1 hx];exact late_step ho' h'
theorem wpLate.done {listed:Array Bool} {a:Act} (hr:Region.ready md ops listed=[]) (h:Q .normal a w):∀ n,wpLate P md ops Q S late n listed a w
 | 0=>⟨hr,h⟩
 | _+1=>⟨fun _=>h,fun i hi=>by rw [hr] at hi;cases hi⟩
theorem wp_region_late {id:Nat} {a:Act} (hm:P.follows .mixedOrders=true) (h:wpLate P .any ops Q S late ops.size (Array.replicate ops.size false) a w.drew):(Code.region id ops true).wp P Q a w :=
 wp_region_any hm (h.any _ _ _ _)
end
end
section
open Go.Proofs.YtiocbpabbjgkhaaGreatDoor.NumD
def kComeA (k:K) (cpu:Int):K:={ k with online:=k.online ||| oneF cpu,active:=k.active ||| oneF cpu }
def kComeB (k:K):K:=(slotList 32 k.th.ids).foldl kMend k
def kComeC (k:K):K:=(irqList k.iq).foldl kAim k
def kCome (k:K) (stage cpu:Int):K :=
 if stage=1 then { k with co:=(coreSet k.co cpu (powerF true)).1 } else
 if stage=2 then { k with ob:=(stashDrain k.ob cpu).1 } else kComeC (kComeB (kComeA k cpu))
theorem KAt.kcome (h:KAt w F p f k) (stage cpu:Int):Calls prog 265 #[.pointer (some ⟨p,0,none⟩),.int .i64 stage,.int .i64 cpu] w fun e w'=>e=.returned (.tuple #[])∧KS w w' F p f (kCome k stage cpu):=by
 have H0:=Hd h;have HK:=Hd h;have HL:=Hd (Lk.refl w F);clear h;unfold kCome
 by_cases h1:stage=1
 ·subst h1
  rw [if_pos rfl]
  go_enter func265,ntmps265
  have P:=Hd (HK.out.kcpower cpu true);have c12:=HK.out.h12;go_wp2_with fail;refine P.out.mono ?_;rintro e w1 ⟨rfl,S⟩;clear P c12;replace S:=S.nx HL.out;clear HL HK;obtain ⟨F1,HK,HL⟩:=S
  try dsimp only at HK
  go_wp2
  refine bodyPost_ret (results_none rfl _ _ _) rfl ?_
  exact ⟨rfl,HK.out.close HL.out H0.out⟩
 rw [if_neg h1]
 have g1:(stage == 1)=false:=by simpa using h1
 by_cases h2:stage=2
 ·subst h2
  rw [if_pos rfl]
  go_enter func265,ntmps265
  have P:=Hd (HK.out.khdrain cpu);have c7:=HK.out.h7;go_wp2_with fail;refine P.out.mono ?_;rintro e w1 ⟨rfl,S⟩;clear P c7;replace S:=S.nx HL.out;clear HL HK;obtain ⟨F1,HK,HL⟩:=S
  try dsimp only at HK
  go_wp2
  refine bodyPost_ret (results_none rfl _ _ _) rfl ?_
  exact ⟨rfl,HK.out.close HL.out H0.out⟩
 rw [if_neg h2]
 have g2:(stage == 2)=false:=by simpa using h2
 obtain ⟨W1,hW1⟩:∃ W1,W1=w.alloc (.cells #[.int .i64 cpu] 3):=⟨_,rfl⟩
 obtain ⟨W2,hW2⟩:∃ W2,W2=W1.alloc (.cells #[.int .i64 cpu] 3):=⟨_,rfl⟩
 have X1:=HK.out.alloc (.cells #[.int .i64 cpu] 3)
 rw [← hW1] at X1
 have X2:=X1.alloc (.cells #[.int .i64 cpu] 3)
 rw [← hW2] at X2
 have B0:Blk W1 w.heap.size #[.int .i64 cpu] 3:=by rw [hW1];exact Blk.new w _ _
 have B1:Blk W2 w.heap.size #[.int .i64 cpu] 3:=by rw [hW2];exact B0.alloc _
 have B2:Blk W2 W1.heap.size #[.int .i64 cpu] 3:=by rw [hW2];exact Blk.new W1 _ _
 have hac:=HK.out.ac;have hon:=HK.out.on
 have A1:=Hd (with_one k.online hon cpu W1.drew w.heap.size 1 (B0.cell 0))
 have A2:=Hd (with_one k.online hon cpu W2.drew w.heap.size 1 (B1.cell 0))
 have A3:=Hd (with_one k.online hon cpu W2.drew W1.heap.size 1 (B2.cell 0))
 have A4:=Hd (with_one k.active hac cpu W2.drew w.heap.size 1 (B1.cell 0))
 have A5:=Hd (with_one k.active hac cpu W2.drew W1.heap.size 1 (B2.cell 0))
 have c2:=HK.out.hon;have c3:=HK.out.hac;have d2:=X1.hon;have d3:=X1.hac;have e2:=X2.hon;have e3:=X2.hac
 have fr:=fun o=>X2.frozen o
 have Y1:=X2.set_online (k.online ||| oneF cpu) (orF_lt _ hon cpu)
 have Y2:=Y1.1.set_active (k.active ||| oneF cpu) (orF_lt _ hac cpu)
 have HK2:KAt ((W2.setCell ⟨p,16,none⟩ (.int .u64 (k.online ||| oneF cpu:Nat))).setCell ⟨p,17,none⟩ (.int .u64 (k.active ||| oneF cpu:Nat))) _ p f (kComeA k cpu):=Y2.1
 have HL2:=((HL.out.alloc (.cells #[.int .i64 cpu] 3)))
 rw [← hW1] at HL2
 have HL3:=HL2.alloc (.cells #[.int .i64 cpu] 3)
 rw [← hW2] at HL3
 have HL4:=(HL3.trans ⟨Y1.2,fun _ e=>e⟩).trans ⟨Y2.2,fun _ e=>e⟩
 obtain ⟨WF,hWF⟩:∃ WF,WF=(W2.setCell ⟨p,16,none⟩ (.int .u64 (k.online ||| oneF cpu:Nat))).setCell ⟨p,17,none⟩ (.int .u64 (k.active ||| oneF cpu:Nat)):=⟨_,rfl⟩
 rw [← hWF] at HK2 HL4;clear HL2 HL3 Y1 Y2;replace hW1:=Hd hW1;replace hW2:=Hd hW2;replace hWF:=Hd hWF;generalize kComeA k cpu=k0 at HK2 ⊢
 obtain ⟨l1,hl1⟩:∃ l,l=slotList 32 k0.th.ids:=⟨_,rfl⟩
 obtain ⟨n1,hn1⟩:∃ n,n=l1.length:=⟨_,rfl⟩
 have hk1:kAll kMend k0 l1 n1=kComeB k0:=by rw [hn1,kAll_all,hl1];rfl
 generalize kComeB k0=k1 at hk1 ⊢
 obtain ⟨l2,hl2⟩:∃ l,l=irqList k1.iq:=⟨_,rfl⟩
 obtain ⟨n2,hn2⟩:∃ n,n=l2.length:=⟨_,rfl⟩
 have hk2:kAll kAim k1 l2 n2=kComeC k1:=by rw [hn2,kAll_all,hl2];rfl
 generalize kComeC k1=k2 at hk2 ⊢;replace hl1:=Hd hl1;replace hl2:=Hd hl2;replace hn1:=Hd hn1;replace hn2:=Hd hn2;replace hk1:=Hd hk1;replace hk2:=Hd hk2;replace HK2:=Hd (HK2.drewN 1);replace HL4:=Hd (HL4.drewN 1)
 go_enter func265,ntmps265
 go_upto_region 5 with fail
 go_cut [] from 29 to 48 (fun wx=>wx=WF.drewN 1)
 case first =>
  refine wp_region_late (S:=fun w'=>w'.cell? ⟨p,16,none⟩=some (.int .u64 k.online)∧w'.cell? ⟨p,17,none⟩=some (.int .u64 k.active)) (late:=[18,21]) (by kernel_rfl) ?_
  have hHeld:w.drew.cell? ⟨p,16,none⟩=some (.int .u64 k.online)∧w.drew.cell? ⟨p,17,none⟩=some (.int .u64 k.active):=⟨c2,c3⟩
  refine wpLate.take0 (i:=0) (oi:=?_) (v:=?_) ?_ (by kernel_rfl) (by kernel_rfl) (by kernel_rfl) (by kernel_rfl) ?_ (Or.inl ⟨?_,?_⟩) (fun _=>hHeld) ?_
  rotate_left 2
  ·simp only [sD,sE,sF];rfl
  ·exact fun _ _ _ h=>h
  ·rfl
  ·intro w' hSw;clear hSw;go_simp;(try with_reducible rfl)
  (try simp only [Act.put,sA,sB,sC])
  refine wpLate.take0 (i:=1) (oi:=?_) (v:=?_) ?_ (by kernel_rfl) (by kernel_rfl) (by kernel_rfl) (by kernel_rfl) ?_ (Or.inl ⟨?_,?_⟩) (fun _=>hHeld) ?_
  rotate_left 2
  ·simp only [sD,sE,sF];rfl
  ·exact fun _ _ _ h=>h
  ·rfl
  ·intro w' hSw;clear hSw;go_simp;(try with_reducible rfl)
  (try simp only [Act.put,sA,sB,sC])
  refine wpLate.take0 (i:=2) (oi:=?_) (v:=?_) ?_ (by kernel_rfl) (by kernel_rfl) (by kernel_rfl) (by kernel_rfl) ?_ (Or.inl ⟨?_,?_⟩) (fun _=>hHeld) ?_
  rotate_left 2
  ·simp only [sD,sE,sF];rfl
  ·exact fun _ _ _ h=>h
  ·rfl
  ·intro w' hSw;clear hSw;go_simp;(try with_reducible rfl)
  (try simp only [Act.put,sA,sB,sC])
  refine wpLate.take0 (i:=3) (oi:=?_) (v:=?_) ?_ (by kernel_rfl) (by kernel_rfl) (by kernel_rfl) (by kernel_rfl) ?_ (Or.inl ⟨?_,?_⟩) (fun _=>hHeld) ?_
  rotate_left 2
  ·simp only [sD,sE,sF];rfl
  ·exact fun _ _ _ h=>h
  ·rfl
  ·intro w' hSw;clear hSw;go_simp;(try with_reducible rfl)
  (try simp only [Act.put,sA,sB,sC])
  refine wpLate.take0 (i:=4) (oi:=?_) (v:=?_) ?_ (by kernel_rfl) (by kernel_rfl) (by kernel_rfl) (by kernel_rfl) ?_ (Or.inl ⟨?_,?_⟩) (fun _=>hHeld) ?_
  rotate_left 2
  ·simp only [sD,sE,sF];rfl
  ·exact fun _ _ _ h=>h
  ·rfl
  ·intro w' hSw;clear hSw;go_simp;(try with_reducible rfl)
  (try simp only [Act.put,sA,sB,sC])
  refine wpLate.take0 (i:=6) (oi:=?_) (v:=?_) ?_ (by kernel_rfl) (by kernel_rfl) (by kernel_rfl) (by kernel_rfl) ?_ (Or.inl ⟨?_,?_⟩) (fun _=>hHeld) ?_
  rotate_left 2
  ·simp only [sD,sE,sF];rfl
  ·exact fun _ _ _ h=>h
  ·rfl
  ·intro w' hSw;clear hSw;go_simp;(try with_reducible rfl)
  (try simp only [Act.put,sA,sB,sC])
  refine wpLate.take0 (i:=9) (oi:=?_) (v:=?_) ?_ (by kernel_rfl) (by kernel_rfl) (by kernel_rfl) (by kernel_rfl) ?_ (Or.inl ⟨?_,?_⟩) (fun _=>hHeld) ?_
  rotate_left 2
  ·simp only [sD,sE,sF];rfl
  ·exact fun _ _ _ h=>h
  ·rfl
  ·intro w' hSw;clear hSw;go_simp;(try with_reducible rfl)
  (try simp only [Act.put,sA,sB,sC])
  refine wpLate.take0 (i:=10) (oi:=?_) (v:=?_) ?_ (by kernel_rfl) (by kernel_rfl) (by kernel_rfl) (by kernel_rfl) ?_ (Or.inl ⟨?_,?_⟩) (fun _=>hHeld) ?_
  rotate_left 2
  ·simp only [sD,sE,sF];rfl
  ·exact fun _ _ _ h=>h
  ·rfl
  ·intro w' hSw;clear hSw;go_simp;(try with_reducible rfl)
  (try simp only [Act.put,sA,sB,sC])
  refine wpLate.take0 (i:=11) (oi:=?_) (v:=?_) ?_ (by kernel_rfl) (by kernel_rfl) (by kernel_rfl) (by kernel_rfl) ?_ (Or.inl ⟨?_,?_⟩) (fun _=>hHeld) ?_
  rotate_left 2
  ·simp only [sD,sE,sF];rfl
  ·exact fun _ _ _ h=>h
  ·rfl
  ·intro w' hSw;clear hSw;go_simp;(try with_reducible rfl)
  (try simp only [Act.put,sA,sB,sC])
  refine wpLate.take0 (i:=13) (oi:=?_) (v:=?_) ?_ (by kernel_rfl) (by kernel_rfl) (by kernel_rfl) (by kernel_rfl) ?_ (Or.inl ⟨?_,?_⟩) (fun _=>hHeld) ?_
  rotate_left 2
  ·simp only [sD,sE,sF];rfl
  ·exact fun _ _ _ h=>h
  ·rfl
  ·intro w' hSw;clear hSw;go_simp;(try with_reducible rfl)
  (try simp only [Act.put,sA,sB,sC])
  refine wpLate.take1 (i:=5) (oi:=?_) (v:=?_) ?_ (by kernel_rfl) (by kernel_rfl) (by kernel_rfl) (by kernel_rfl) (by kernel_rfl) (by kernel_rfl) ?_ (Or.inl ⟨?_,?_⟩) hHeld ?_
  rotate_left 2
  ·simp only [sD,sE,sF];rfl
  ·exact fun _ _ _ h=>h
  ·rfl
  ·intro w' hSw;(try dsimp only at hSw);go_simp;(try with_reducible rfl)
  (try simp only [Act.put,sA,sB,sC])
  refine wpLate.take1 (i:=12) (oi:=?_) (v:=?_) ?_ (by kernel_rfl) (by kernel_rfl) (by kernel_rfl) (by kernel_rfl) (by kernel_rfl) (by kernel_rfl) ?_ (Or.inl ⟨?_,?_⟩) hHeld ?_
  rotate_left 2
  ·simp only [sD,sE,sF];rfl
  ·exact fun _ _ _ h=>h
  ·rfl
  ·intro w' hSw;(try dsimp only at hSw);go_simp;(try with_reducible rfl)
  (try simp only [Act.put,sA,sB,sC])
  refine wpLate.two (i:=7) (j:=14) (o:=?_) (o':=?_) (by kernel_rfl) ?_ ?_ (fun K hK=>?_) (fun K hK=>?_)
  rotate_left 2
  ·simp only [List.getElem?_toArray,List.getElem?_cons_zero,List.getElem?_cons_succ];rfl
  ·simp only [List.getElem?_toArray,List.getElem?_cons_zero,List.getElem?_cons_succ];rfl
  ·go_simp
   rw [← hW1.out]
   have hHeld:=(show W1.drew.cell? ⟨p,16,none⟩=some (.int .u64 k.online)∧W1.drew.cell? ⟨p,17,none⟩=some (.int .u64 k.active) from ⟨d2,d3⟩)
   refine hK.out _ _ (fun _=>hHeld) ?_
   clear hK K
   (try simp only [Act.put,List.setIfInBounds_toArray,List.set_cons_zero,List.set_cons_succ])
   refine wpLate.two (i:=8) (j:=14) (o:=?_) (o':=?_) (by kernel_rfl) ?_ ?_ (fun K hK=>?_) (fun K hK=>?_)
   rotate_left 2
   ·simp only [List.getElem?_toArray,List.getElem?_cons_zero,List.getElem?_cons_succ];rfl
   ·simp only [List.getElem?_toArray,List.getElem?_cons_zero,List.getElem?_cons_succ];rfl
   ·go_simp
    (refine A1.out.mono ?_;rintro e w3 ⟨rfl,rfl⟩)
    have hHeld:=(show W1.drew.cell? ⟨p,16,none⟩=some (.int .u64 k.online)∧W1.drew.cell? ⟨p,17,none⟩=some (.int .u64 k.active) from ⟨d2,d3⟩)
    refine hK.out _ _ (fun _=>hHeld) ?_
    clear hK K
    (try simp only [Act.put,List.setIfInBounds_toArray,List.set_cons_zero,List.set_cons_succ])
    refine wpLate.one (i:=14) (o:=?_) (by kernel_rfl) ?_ (fun K hK=>?_)
    rotate_left 1
    ·simp only [sD,sE,sF];rfl
    go_simp
    rw [← hW2.out]
    have hHeld:=(show W2.drew.cell? ⟨p,16,none⟩=some (.int .u64 k.online)∧W2.drew.cell? ⟨p,17,none⟩=some (.int .u64 k.active) from ⟨e2,e3⟩)
    refine hK.out _ _ (fun _=>hHeld) ?_
    clear hK K
    (try simp only [Act.put,sA,sB,sC])
    refine wpLate.one (i:=15) (o:=?_) (by kernel_rfl) ?_ (fun K hK=>?_)
    rotate_left 1
    ·simp only [sD,sE,sF];rfl
    go_simp
    (refine A5.out.mono ?_;rintro e w3 ⟨rfl,rfl⟩)
    have hHeld:=(show W2.drew.cell? ⟨p,16,none⟩=some (.int .u64 k.online)∧W2.drew.cell? ⟨p,17,none⟩=some (.int .u64 k.active) from ⟨e2,e3⟩)
    refine hK.out _ _ (fun _=>hHeld) ?_
    clear hK K
    (try simp only [Act.put,sA,sB,sC])
    refine wpLate.take0 (i:=16) (oi:=?_) (v:=?_) ?_ (by kernel_rfl) (by kernel_rfl) (by kernel_rfl) (by kernel_rfl) ?_ (Or.inl ⟨?_,?_⟩) (fun _=>hHeld) ?_
    rotate_left 2
    ·simp only [sD,sE,sF];rfl
    ·exact fun _ _ _ h=>h
    ·rfl
    ·intro w' hSw;clear hSw;go_simp;(try with_reducible rfl)
    (try simp only [Act.put,sA,sB,sC])
    refine wpLate.take0 (i:=17) (oi:=?_) (v:=?_) ?_ (by kernel_rfl) (by kernel_rfl) (by kernel_rfl) (by kernel_rfl) ?_ (Or.inl ⟨?_,?_⟩) (fun _=>hHeld) ?_
    rotate_left 2
    ·simp only [sD,sE,sF];rfl
    ·exact fun _ _ _ h=>h
    ·rfl
    ·intro w' hSw;clear hSw;go_simp;(try with_reducible rfl)
    (try simp only [Act.put,sA,sB,sC])
    refine wpLate.one (i:=18) (o:=?_) (by kernel_rfl) ?_ (fun K hK=>?_)
    rotate_left 1
    ·simp only [sD,sE,sF];rfl
    go_simp
    refine hK.out _ _ (fun e=>Bool.noConfusion (e 18 (by simp))) ?_
    clear hK K
    (try simp only [Act.put,sA,sB,sC])
    refine wpLate.one (i:=19) (o:=?_) (by kernel_rfl) ?_ (fun K hK=>?_)
    rotate_left 1
    ·simp only [sD,sE,sF];rfl
    go_simp
    refine hK.out _ _ (fun e=>Bool.noConfusion (e 18 (by simp))) ?_
    clear hK K
    (try simp only [Act.put,sA,sB,sC])
    refine wpLate.one (i:=20) (o:=?_) (by kernel_rfl) ?_ (fun K hK=>?_)
    rotate_left 1
    ·simp only [sD,sE,sF];rfl
    go_simp
    refine hK.out _ _ (fun e=>Bool.noConfusion (e 18 (by simp))) ?_
    clear hK K
    (try simp only [Act.put,sA,sB,sC])
    refine wpLate.one (i:=21) (o:=?_) (by kernel_rfl) ?_ (fun K hK=>?_)
    rotate_left 1
    ·simp only [sD,sE,sF];rfl
    go_simp
    refine hK.out _ _ (fun e=>Bool.noConfusion (e 21 (by simp))) ?_
    clear hK K
    (try simp only [Act.put,sA,sB,sC])
    refine wpLate.done (by kernel_rfl) ?_ _
    rw [← hWF.out];go_wp2_with fail
    go_meet
    rfl
   ·go_simp
    rw [← hW2.out]
    have hHeld:=(show W2.drew.cell? ⟨p,16,none⟩=some (.int .u64 k.online)∧W2.drew.cell? ⟨p,17,none⟩=some (.int .u64 k.active) from ⟨e2,e3⟩)
    refine hK.out _ _ (fun _=>hHeld) ?_
    clear hK K
    (try simp only [Act.put,List.setIfInBounds_toArray,List.set_cons_zero,List.set_cons_succ])
    refine wpLate.one (i:=8) (o:=?_) (by kernel_rfl) ?_ (fun K hK=>?_)
    rotate_left 1
    ·simp only [sD,sE,sF];rfl
    go_simp
    (refine A2.out.mono ?_;rintro e w3 ⟨rfl,rfl⟩)
    have hHeld:=(show W2.drew.cell? ⟨p,16,none⟩=some (.int .u64 k.online)∧W2.drew.cell? ⟨p,17,none⟩=some (.int .u64 k.active) from ⟨e2,e3⟩)
    refine hK.out _ _ (fun _=>hHeld) ?_
    clear hK K
    (try simp only [Act.put,sA,sB,sC])
    refine wpLate.one (i:=15) (o:=?_) (by kernel_rfl) ?_ (fun K hK=>?_)
    rotate_left 1
    ·simp only [sD,sE,sF];rfl
    go_simp
    (refine A5.out.mono ?_;rintro e w3 ⟨rfl,rfl⟩)
    have hHeld:=(show W2.drew.cell? ⟨p,16,none⟩=some (.int .u64 k.online)∧W2.drew.cell? ⟨p,17,none⟩=some (.int .u64 k.active) from ⟨e2,e3⟩)
    refine hK.out _ _ (fun _=>hHeld) ?_
    clear hK K
    (try simp only [Act.put,sA,sB,sC])
    refine wpLate.take0 (i:=16) (oi:=?_) (v:=?_) ?_ (by kernel_rfl) (by kernel_rfl) (by kernel_rfl) (by kernel_rfl) ?_ (Or.inl ⟨?_,?_⟩) (fun _=>hHeld) ?_
    rotate_left 2
    ·simp only [sD,sE,sF];rfl
    ·exact fun _ _ _ h=>h
    ·rfl
    ·intro w' hSw;clear hSw;go_simp;(try with_reducible rfl)
    (try simp only [Act.put,sA,sB,sC])
    refine wpLate.take0 (i:=17) (oi:=?_) (v:=?_) ?_ (by kernel_rfl) (by kernel_rfl) (by kernel_rfl) (by kernel_rfl) ?_ (Or.inl ⟨?_,?_⟩) (fun _=>hHeld) ?_
    rotate_left 2
    ·simp only [sD,sE,sF];rfl
    ·exact fun _ _ _ h=>h
    ·rfl
    ·intro w' hSw;clear hSw;go_simp;(try with_reducible rfl)
    (try simp only [Act.put,sA,sB,sC])
    refine wpLate.one (i:=18) (o:=?_) (by kernel_rfl) ?_ (fun K hK=>?_)
    rotate_left 1
    ·simp only [sD,sE,sF];rfl
    go_simp
    refine hK.out _ _ (fun e=>Bool.noConfusion (e 18 (by simp))) ?_
    clear hK K
    (try simp only [Act.put,sA,sB,sC])
    refine wpLate.one (i:=19) (o:=?_) (by kernel_rfl) ?_ (fun K hK=>?_)
    rotate_left 1
    ·simp only [sD,sE,sF];rfl
    go_simp
    refine hK.out _ _ (fun e=>Bool.noConfusion (e 18 (by simp))) ?_
    clear hK K
    (try simp only [Act.put,sA,sB,sC])
    refine wpLate.one (i:=20) (o:=?_) (by kernel_rfl) ?_ (fun K hK=>?_)
    rotate_left 1
    ·simp only [sD,sE,sF];rfl
    go_simp
    refine hK.out _ _ (fun e=>Bool.noConfusion (e 18 (by simp))) ?_
    clear hK K
    (try simp only [Act.put,sA,sB,sC])
    refine wpLate.one (i:=21) (o:=?_) (by kernel_rfl) ?_ (fun K hK=>?_)
    rotate_left 1
    ·simp only [sD,sE,sF];rfl
    go_simp
    refine hK.out _ _ (fun e=>Bool.noConfusion (e 21 (by simp))) ?_
    clear hK K
    (try simp only [Act.put,sA,sB,sC])
    refine wpLate.done (by kernel_rfl) ?_ _
    rw [← hWF.out];go_wp2_with fail
    go_meet
    rfl
  ·go_simp
   rw [← hW1.out]
   have hHeld:=(show W1.drew.cell? ⟨p,16,none⟩=some (.int .u64 k.online)∧W1.drew.cell? ⟨p,17,none⟩=some (.int .u64 k.active) from ⟨d2,d3⟩)
   refine hK.out _ _ (fun _=>hHeld) ?_
   clear hK K
   (try simp only [Act.put,List.setIfInBounds_toArray,List.set_cons_zero,List.set_cons_succ])
   refine wpLate.one (i:=7) (o:=?_) (by kernel_rfl) ?_ (fun K hK=>?_)
   rotate_left 1
   ·simp only [sD,sE,sF];rfl
   go_simp
   rw [← hW2.out]
   have hHeld:=(show W2.drew.cell? ⟨p,16,none⟩=some (.int .u64 k.online)∧W2.drew.cell? ⟨p,17,none⟩=some (.int .u64 k.active) from ⟨e2,e3⟩)
   refine hK.out _ _ (fun _=>hHeld) ?_
   clear hK K
   (try simp only [Act.put,sA,sB,sC])
   refine wpLate.one (i:=8) (o:=?_) (by kernel_rfl) ?_ (fun K hK=>?_)
   rotate_left 1
   ·simp only [sD,sE,sF];rfl
   go_simp
   (refine A3.out.mono ?_;rintro e w3 ⟨rfl,rfl⟩)
   have hHeld:=(show W2.drew.cell? ⟨p,16,none⟩=some (.int .u64 k.online)∧W2.drew.cell? ⟨p,17,none⟩=some (.int .u64 k.active) from ⟨e2,e3⟩)
   refine hK.out _ _ (fun _=>hHeld) ?_
   clear hK K
   (try simp only [Act.put,sA,sB,sC])
   refine wpLate.one (i:=15) (o:=?_) (by kernel_rfl) ?_ (fun K hK=>?_)
   rotate_left 1
   ·simp only [sD,sE,sF];rfl
   go_simp
   (refine A4.out.mono ?_;rintro e w3 ⟨rfl,rfl⟩)
   have hHeld:=(show W2.drew.cell? ⟨p,16,none⟩=some (.int .u64 k.online)∧W2.drew.cell? ⟨p,17,none⟩=some (.int .u64 k.active) from ⟨e2,e3⟩)
   refine hK.out _ _ (fun _=>hHeld) ?_
   clear hK K
   (try simp only [Act.put,sA,sB,sC])
   refine wpLate.take0 (i:=16) (oi:=?_) (v:=?_) ?_ (by kernel_rfl) (by kernel_rfl) (by kernel_rfl) (by kernel_rfl) ?_ (Or.inl ⟨?_,?_⟩) (fun _=>hHeld) ?_
   rotate_left 2
   ·simp only [sD,sE,sF];rfl
   ·exact fun _ _ _ h=>h
   ·rfl
   ·intro w' hSw;clear hSw;go_simp;(try with_reducible rfl)
   (try simp only [Act.put,sA,sB,sC])
   refine wpLate.take0 (i:=17) (oi:=?_) (v:=?_) ?_ (by kernel_rfl) (by kernel_rfl) (by kernel_rfl) (by kernel_rfl) ?_ (Or.inl ⟨?_,?_⟩) (fun _=>hHeld) ?_
   rotate_left 2
   ·simp only [sD,sE,sF];rfl
   ·exact fun _ _ _ h=>h
   ·rfl
   ·intro w' hSw;clear hSw;go_simp;(try with_reducible rfl)
   (try simp only [Act.put,sA,sB,sC])
   refine wpLate.one (i:=18) (o:=?_) (by kernel_rfl) ?_ (fun K hK=>?_)
   rotate_left 1
   ·simp only [sD,sE,sF];rfl
   go_simp
   refine hK.out _ _ (fun e=>Bool.noConfusion (e 18 (by simp))) ?_
   clear hK K
   (try simp only [Act.put,sA,sB,sC])
   refine wpLate.one (i:=19) (o:=?_) (by kernel_rfl) ?_ (fun K hK=>?_)
   rotate_left 1
   ·simp only [sD,sE,sF];rfl
   go_simp
   refine hK.out _ _ (fun e=>Bool.noConfusion (e 18 (by simp))) ?_
   clear hK K
   (try simp only [Act.put,sA,sB,sC])
   refine wpLate.one (i:=20) (o:=?_) (by kernel_rfl) ?_ (fun K hK=>?_)
   rotate_left 1
   ·simp only [sD,sE,sF];rfl
   go_simp
   refine hK.out _ _ (fun e=>Bool.noConfusion (e 18 (by simp))) ?_
   clear hK K
   (try simp only [Act.put,sA,sB,sC])
   refine wpLate.one (i:=21) (o:=?_) (by kernel_rfl) ?_ (fun K hK=>?_)
   rotate_left 1
   ·simp only [sD,sE,sF];rfl
   go_simp
   refine hK.out _ _ (fun e=>Bool.noConfusion (e 21 (by simp))) ?_
   clear hK K
   (try simp only [Act.put,sA,sB,sC])
   refine wpLate.done (by kernel_rfl) ?_ _
   rw [← hWF.out];go_wp2_with fail
   go_meet
   rfl
 case rest =>
  subst hcut;clear A1 A2 A3 A4 A5 c2 c3 d2 d3 e2 e3 fr B0 B1 B2 X1 X2 hac hon HK HL;have HK:=HK2;have HL:=HL4;clear HK2 HL4;have P:=HK.out.ktlist;have HN:=HK;have c0:=HK.out.h0;rw [← hl1.out] at P;replace P:=Hd P;go_wp2_with fail;refine P.out.mono ?_;rintro e w1 ⟨⟨v,rfl,hv⟩,S⟩
  obtain ⟨base,cap,g,cs,rfl,hm,hb⟩:=ints_bx HN.out hv
  clear hv P HN c0;unfold maxLen at hm;replace HL:=Hd (HL.out.below S);replace HK:=Hd (HK.out.below S);clear S;rw [← hn1.out] at hb hm ⊢;replace hb:=Hd hb;go_wp2
  go_loopw [56,7] (fun iv _ wr=>∃ (j:Nat) (F':Nat→Prop),iv=.int .i64 j∧j≤n1∧Hid (KAt wr F' p f (kAll kMend k0 l1 j))∧Hid (Lk w F wr F')∧Hid (0 < n1→Bx wr F' g cs 3)) (fun iv _ _=>n1 - (intOf iv).toNat)
  case atStart=>exact ⟨0,_,rfl,by omega,Hd (by rw [kAll_zero];exact HK.out),HL,Hd (fun e=>(hb.out e).2.1)⟩
  case round =>
   clear HK HL;obtain ⟨j,F',rfl,hj,HK,HL,HB⟩:=hrel
   by_cases hlt:j < n1
   ·obtain ⟨rfl,-,hcs⟩:=hb.out (by omega)
    have hc:=(HB.out (by omega)).cell j
    rw [hcs j hlt] at hc
    have hst:=kAll_step kMend k0 l1 j (by rw [← hn1.out];exact hlt)
    generalize l1.getD j 0=x at hc hst;have P:=Hd (HK.out.kmend x);clear hcs;go_wp2_with fail;refine P.out.mono ?_;rintro e w2 ⟨rfl,S⟩;clear P;obtain ⟨F1,L1,K1⟩:=S.open;clear S
    replace HB:=Hd (fun e=>(HB.out e).lk L1)
    replace HL:=Hd (HL.out.trans L1);replace HK:=Hd K1;clear L1 K1;go_wp2;go_roundw
    case rel=>exact ⟨j+1,_,by go_num,hlt,by rw [hst];exact HK,HL,HB⟩
    case measure=>simp [intOf];omega
   ·have:j=n1:=by omega
    subst this;clear HB hb;rw [hk1.out] at HK;have P:=HK.out.kilist;have HN:=HK;have c3:=HK.out.h3;rw [← hl2.out] at P;replace P:=Hd P;go_wp2_with fail;refine P.out.mono ?_;rintro e w1 ⟨⟨v,rfl,hv⟩,S⟩
    obtain ⟨base,cap,g,cs,rfl,hm,hb⟩:=ints_bx HN.out hv
    clear hv P HN c3;unfold maxLen at hm;replace HL:=Hd (HL.out.below S);replace HK:=Hd (HK.out.below S);clear S;rw [← hn2.out] at hb hm ⊢;replace hb:=Hd hb;go_wp2
    go_loopw [71,9] (fun iv _ wr=>∃ (j:Nat) (F':Nat→Prop),iv=.int .i64 j∧j≤n2∧Hid (KAt wr F' p f (kAll kAim k1 l2 j))∧Hid (Lk w F wr F')∧Hid (0 < n2→Bx wr F' g cs 3)) (fun iv _ _=>n2 - (intOf iv).toNat)
    case atStart=>exact ⟨0,_,rfl,by omega,Hd (by rw [kAll_zero];exact HK.out),HL,Hd (fun e=>(hb.out e).2.1)⟩
    case round =>
     clear HK HL;obtain ⟨j,F',rfl,hj,HK,HL,HB⟩:=hrel
     by_cases hlt:j < n2
     ·obtain ⟨rfl,-,hcs⟩:=hb.out (by omega)
      have hc:=(HB.out (by omega)).cell j
      rw [hcs j hlt] at hc
      have hst:=kAll_step kAim k1 l2 j (by rw [← hn2.out];exact hlt)
      generalize l2.getD j 0=x at hc hst;have P:=Hd (HK.out.kaim x);clear hcs;go_wp2_with fail;refine P.out.mono ?_;rintro e w2 ⟨rfl,S⟩;clear P;obtain ⟨F1,L1,K1⟩:=S.open;clear S
      replace HB:=Hd (fun e=>(HB.out e).lk L1)
      replace HL:=Hd (HL.out.trans L1);replace HK:=Hd K1;clear L1 K1;go_wp2;go_roundw
      case rel=>exact ⟨j+1,_,by go_num,hlt,by rw [hst];exact HK,HL,HB⟩
      case measure=>simp [intOf];omega
     ·have:j=n2:=by omega
      subst this;clear HB hb;rw [hk2.out] at HK;go_wp2;go_end0
      exact ⟨rfl,HK.out.close HL.out H0.out⟩
end
section
open Go.Proofs.YtiocbpabbjgkhaaGreatDoor.NumD
def kLeave (k:K) (stage cpu by':Int):K × Bool :=
 if stage=1 then ({ k with active:=notF k.active (oneF cpu) },true) else
 if stage=2 then kEmpty k cpu else
 if stage=3 then ({ k with tm:=(timersMove k.tm cpu by').1 },!((timersMove k.tm cpu by').2.2 == 0)) else
 if stage=4 then ({ k with wk:=(worksUnbind k.wk cpu).1 },!((worksUnbind k.wk cpu).2.2 == 0)) else
 if stage=5 then ({ k with cl:=(boxMove k.cl cpu by').1 },!((boxMove k.cl cpu by').2.2 == 0)) else
 if stage=6 then kHalt k cpu by' else
 if stage=7 then ({ k with ob:=(stashDrain k.ob cpu).1 },true) else
 if stage=8 then ({ k with ct:=(splitFold k.ct cpu by').1 },true) else
 ({ k with online:=notF k.online (oneF cpu),co:=(coreSet k.co cpu (powerF false)).1 },true)
theorem KAt.kleave (h:KAt w F p f k) (hf:fewT k.tm) (hk:keysT k.tm) (stage cpu by':Int):Calls prog 266 #[.pointer (some ⟨p,0,none⟩),.int .i64 stage,.int .i64 cpu,.int .i64 by'] w fun e w'=>e=.returned (.bool (kLeave k stage cpu by').2)∧KS w w' F p f (kLeave k stage cpu by').1:=by
 replace hf:=Hd hf;replace hk:=Hd hk;have H0:=Hd h;have HK:=Hd h;have HL:=Hd (Lk.refl w F);clear h;unfold kLeave
 by_cases h1:stage=1
 ·subst h1
  rw [if_pos rfl];have c17:=HK.out.hac;have fr:=HK.out.frozen 17;have A:=Hd (less_any k.active HK.out.ac cpu w)
  have S:=HK.out.set_active (notF k.active (oneF cpu)) (notF_lt _ _ HK.out.ac)
  go_enter func266,ntmps266
  go_wp2_with fail;refine A.out.mono ?_;rintro e w1 ⟨rfl,rfl⟩;go_wp2;replace S:=S.nx HL.out;clear HL HK;obtain ⟨F1,HK,HL⟩:=S
  try dsimp only at HK
  go_wp2;go_returns
  exact ⟨rfl,HK.out.close HL.out H0.out⟩
 rw [if_neg h1]
 have g1:(stage == 1)=false:=by simpa using h1
 by_cases h2:stage=2
 ·subst h2
  rw [if_pos rfl]
  go_enter func266,ntmps266
  have P:=Hd (HK.out.kempty cpu);go_wp2_with fail;refine P.out.mono ?_;rintro e w1 ⟨rfl,S⟩;clear P;replace S:=S.nx HL.out;clear HL HK;obtain ⟨F1,HK,HL⟩:=S
  try dsimp only at HK
  go_wp2;go_returns
  exact ⟨rfl,HK.out.close HL.out H0.out⟩
 rw [if_neg h2]
 have g2:(stage == 2)=false:=by simpa using h2
 by_cases h3:stage=3
 ·subst h3
  rw [if_pos rfl]
  have P:=HK.out.ktmove hf.out hk.out cpu by'
  have c2:=HK.out.h2
  obtain ⟨u,hu⟩:∃ u,u=timersMove k.tm cpu by':=⟨_,rfl⟩
  rw [← hu] at P ⊢;replace hu:=Hd hu;obtain ⟨u1,u2,u3⟩:=u;dsimp only at P ⊢;replace P:=Hd P
  go_enter func266,ntmps266
  go_wp2_with fail;refine P.out.mono ?_;rintro e w1 ⟨rfl,S⟩;replace S:=S.nx HL.out;clear HL HK;obtain ⟨F1,HK,HL⟩:=S
  try dsimp only at HK
  go_wp2;go_returns
  exact ⟨rfl,HK.out.close HL.out H0.out⟩
 rw [if_neg h3]
 have g3:(stage == 3)=false:=by simpa using h3
 by_cases h4:stage=4
 ·subst h4
  rw [if_pos rfl]
  have P:=HK.out.klunbind cpu
  have c5:=HK.out.h5
  obtain ⟨u,hu⟩:∃ u,u=worksUnbind k.wk cpu:=⟨_,rfl⟩
  rw [← hu] at P ⊢;replace hu:=Hd hu;obtain ⟨u1,u2,u3⟩:=u;dsimp only at P ⊢;replace P:=Hd P
  go_enter func266,ntmps266
  go_wp2_with fail;refine P.out.mono ?_;rintro e w1 ⟨rfl,S⟩;replace S:=S.nx HL.out;clear HL HK;obtain ⟨F1,HK,HL⟩:=S
  try dsimp only at HK
  go_wp2;go_returns
  exact ⟨rfl,HK.out.close HL.out H0.out⟩
 rw [if_neg h4]
 have g4:(stage == 4)=false:=by simpa using h4
 by_cases h5:stage=5
 ·subst h5
  rw [if_pos rfl]
  have P:=HK.out.kbmove cpu by'
  have c6:=HK.out.h6
  obtain ⟨u,hu⟩:∃ u,u=boxMove k.cl cpu by':=⟨_,rfl⟩
  rw [← hu] at P ⊢;replace hu:=Hd hu;obtain ⟨u1,u2,u3⟩:=u;dsimp only at P ⊢;replace P:=Hd P
  go_enter func266,ntmps266
  go_wp2_with fail;refine P.out.mono ?_;rintro e w1 ⟨rfl,S⟩;replace S:=S.nx HL.out;clear HL HK;obtain ⟨F1,HK,HL⟩:=S
  try dsimp only at HK
  go_wp2;go_returns
  exact ⟨rfl,HK.out.close HL.out H0.out⟩
 rw [if_neg h5]
 have g5:(stage == 5)=false:=by simpa using h5
 by_cases h6:stage=6
 ·subst h6
  rw [if_pos rfl]
  go_enter func266,ntmps266
  have P:=Hd (HK.out.khalt cpu by');go_wp2_with fail;refine P.out.mono ?_;rintro e w1 ⟨rfl,S⟩;clear P;replace S:=S.nx HL.out;clear HL HK;obtain ⟨F1,HK,HL⟩:=S
  try dsimp only at HK
  go_wp2;go_returns
  exact ⟨rfl,HK.out.close HL.out H0.out⟩
 rw [if_neg h6]
 have g6:(stage == 6)=false:=by simpa using h6
 by_cases h7:stage=7
 ·subst h7
  rw [if_pos rfl]
  go_enter func266,ntmps266
  have P:=Hd (HK.out.khdrain cpu);have c7:=HK.out.h7;go_wp2_with fail;refine P.out.mono ?_;rintro e w1 ⟨rfl,S⟩;clear P c7;replace S:=S.nx HL.out;clear HL HK;obtain ⟨F1,HK,HL⟩:=S
  try dsimp only at HK
  go_wp2;go_returns
  exact ⟨rfl,HK.out.close HL.out H0.out⟩
 rw [if_neg h7]
 have g7:(stage == 7)=false:=by simpa using h7
 by_cases h8:stage=8
 ·subst h8
  rw [if_pos rfl]
  go_enter func266,ntmps266
  have P:=Hd (HK.out.ksfold cpu by');have c8:=HK.out.h8;go_wp2_with fail;refine P.out.mono ?_;rintro e w1 ⟨rfl,S⟩;clear P c8;replace S:=S.nx HL.out;clear HL HK;obtain ⟨F1,HK,HL⟩:=S
  try dsimp only at HK
  go_wp2;go_returns
  exact ⟨rfl,HK.out.close HL.out H0.out⟩
 rw [if_neg h8]
 have g8:(stage == 8)=false:=by simpa using h8
 have c16:=HK.out.hon;have fr:=HK.out.frozen 16;have A:=Hd (less_any k.online HK.out.on cpu w)
 have S:=HK.out.set_online (notF k.online (oneF cpu)) (notF_lt _ _ HK.out.on)
 go_enter func266,ntmps266
 go_wp2_with fail;refine A.out.mono ?_;rintro e w1 ⟨rfl,rfl⟩;clear A;replace S:=S.nx HL.out;clear HL HK;obtain ⟨F1,HK,HL⟩:=S
 try dsimp only at HK
 have P:=Hd (HK.out.kcpower cpu false);have c12:=HK.out.h12;go_wp2_with fail;refine P.out.mono ?_;rintro e w1 ⟨rfl,S⟩;clear P c12;replace S:=S.nx HL.out;clear HL HK;obtain ⟨F1,HK,HL⟩:=S
 try dsimp only at HK
 go_wp2;go_returns
 exact ⟨rfl,HK.out.close HL.out H0.out⟩
end
section
open Go.Proofs.YtiocbpabbjgkhaaGreatDoor.NumD
def kStage (k:K) (s:Step) (cpu by':Int):K × Bool :=
 if s.undo then (kUndo k (deskUp k.dk) s.stage cpu,true) else
 if s.stage=0 then ({ k with gt:=(gateTake k.gt).1 },(gateTake k.gt).2 == 0) else
 if deskUp k.dk then (kCome k s.stage cpu,true) else kLeave k s.stage cpu by'
theorem KAt.kstage (h:KAt w F p f k) (hf:fewT k.tm) (hk:keysT k.tm) (s:Step) (cpu by':Int):Calls prog 192 #[.pointer (some ⟨p,0,none⟩),.agg #[.int .i64 s.stage,.bool s.undo,.bool s.fails],.int .i64 cpu,.int .i64 by'] w fun e w'=>e=.returned (.bool (kStage k s cpu by').2)∧KS w w' F p f (kStage k s cpu by').1:=by
 replace hf:=Hd hf;replace hk:=Hd hk;have H0:=Hd h;have HK:=Hd h;have HL:=Hd (Lk.refl w F);clear h;obtain ⟨st,un,fa⟩:=s;unfold kStage;dsimp only
 have HX:=HK.out.bx HL.out #[.int .i64 st,.bool un,.bool fa] 297
 clear HL HK;obtain ⟨HB,HK,HL⟩:=HX;have b0:=HB.out.cell 0;have b1:=HB.out.cell 1;have A:=HK.out.kdup;have c11:=HK.out.h11
 obtain ⟨up,hup⟩:∃ up,up=deskUp k.dk:=⟨_,rfl⟩
 rw [← hup] at A ⊢;replace A:=Hd A;replace hup:=Hd hup
 cases un with
 | true =>
  rw [if_pos rfl]
  go_enter func192,ntmps192
  go_wp2_with fail;refine A.out.mono ?_;rintro e w1 ⟨rfl,rfl⟩;clear A c11;have P:=Hd (HK.out.kundo up st cpu);go_wp2_with fail;refine P.out.mono ?_;rintro e w1 ⟨rfl,S⟩;clear P;replace S:=S.nx HL.out;clear HL HK;obtain ⟨F1,HK,HL⟩:=S
  try dsimp only at HK
  go_wp2;go_returns
  exact ⟨rfl,HK.out.close HL.out H0.out⟩
 | false =>
  rw [if_neg (by decide)]
  by_cases h0:st=0
  ·subst h0
   rw [if_pos rfl]
   go_enter func192,ntmps192
   go_wp2_with fail;refine A.out.mono ?_;rintro e w1 ⟨rfl,rfl⟩;clear A c11;have P:=Hd (HK.out.kgtake);have c9:=HK.out.h9;go_wp2_with fail;refine P.out.mono ?_;rintro e w1 ⟨rfl,S⟩;clear P c9;replace S:=S.nx HL.out;clear HL HK;obtain ⟨F1,HK,HL⟩:=S
   try dsimp only at HK
   go_wp2;go_returns
   exact ⟨rfl,HK.out.close HL.out H0.out⟩
  ·rw [if_neg h0]
   have g0:(st == 0)=false:=by simpa using h0
   cases up with
   | true =>
    rw [if_pos rfl]
    go_enter func192,ntmps192
    go_wp2_with fail;refine A.out.mono ?_;rintro e w1 ⟨rfl,rfl⟩;clear A c11;have P:=Hd (HK.out.kcome st cpu);go_wp2_with fail;refine P.out.mono ?_;rintro e w1 ⟨rfl,S⟩;clear P;replace S:=S.nx HL.out;clear HL HK;obtain ⟨F1,HK,HL⟩:=S
    try dsimp only at HK
    go_wp2;go_returns
    exact ⟨rfl,HK.out.close HL.out H0.out⟩
   | false =>
    rw [if_neg (by decide)]
    go_enter func192,ntmps192
    go_wp2_with fail;refine A.out.mono ?_;rintro e w1 ⟨rfl,rfl⟩;clear A c11;have P:=Hd (HK.out.kleave hf.out hk.out st cpu by');go_wp2_with fail;refine P.out.mono ?_;rintro e w1 ⟨rfl,S⟩;replace S:=S.nx HL.out;clear HL HK;obtain ⟨F1,HK,HL⟩:=S
    try dsimp only at HK
    go_wp2;go_returns
    exact ⟨rfl,HK.out.close HL.out H0.out⟩
def kTurnA (k:K) (by':Int):K × Bool:=if (deskNext k.dk).2.1.fails then ({ k with dk:=(deskNext k.dk).1 },false) else kStage { k with dk:=(deskNext k.dk).1 } (deskNext k.dk).2.1 (deskCpu k.dk) by'
def kTurnB (k:K) (by':Int):K:=if (kTurnA k by').2 then { (kTurnA k by').1 with dk:=(deskDone (kTurnA k by').1.dk).1 } else (kTurnA k by').1
def kTurnC (k:K):K:=if deskOver k.dk then { k with dk:=(deskEnd k.dk).1,gt:=(gateFree k.gt).1 } else k
def kTurnR (k:K) (cpu:Int):List Rec:=if deskOver k.dk then [⟨7,cpu,0,0,(deskEnd k.dk).2.1⟩] else []
def kTurn (k:K) (by':Int):K × List Rec:=(kTurnC (kTurnB k by'),kTurnR (kTurnB k by') (deskCpu k.dk))
theorem KAt.kturn (h:KAt w F p f k) (hf:fewT k.tm) (hk:keysT k.tm) (by':Int):Calls prog 123 #[.pointer (some ⟨p,0,none⟩),.int .i64 by'] w fun e w'=>KR w F p f (kTurn k by').1 (kTurn k by').2 e w':=by
 replace hf:=Hd hf;replace hk:=Hd hk;have A:=h.kdcpu;have c11:=h.h11;have H0:=Hd h;have HK:=Hd h;have HL:=Hd (Lk.refl w F);clear h;unfold kTurn;dsimp only
 obtain ⟨cpu,hcpu⟩:∃ cpu,cpu=deskCpu k.dk:=⟨_,rfl⟩
 rw [← hcpu] at A ⊢
 obtain ⟨k2,hk2⟩:∃ k2,k2=kTurnB k by':=⟨_,rfl⟩
 rw [← hk2];unfold kTurnB at hk2
 obtain ⟨r,hr⟩:∃ r,r=kTurnA k by':=⟨_,rfl⟩
 rw [← hr] at hk2;unfold kTurnA at hr;rw [← hcpu] at hr
 obtain ⟨u,hu⟩:∃ u,u=deskNext k.dk:=⟨_,rfl⟩
 have N:=HK.out.kdnext;rw [← hu] at hr N;obtain ⟨dk1,st,why⟩:=u;dsimp only at hr N;replace A:=Hd A;replace N:=Hd N;replace hu:=Hd hu;replace hcpu:=Hd hcpu;obtain ⟨sg,un,fa⟩:=st;dsimp only at hr N
 cases fa with
 | true =>
  rw [if_pos rfl] at hr;subst hr;rw [if_neg (by simp)] at hk2;dsimp only at hk2;subst hk2;unfold kTurnC kTurnR
  cases ho:deskOver dk1 with
  | false =>
   rw [if_neg (by decide),if_neg (by decide)];replace ho:=Hd ho
   go_enter func123,ntmps123
   go_wp2_with fail;refine A.out.mono ?_;rintro e w1 ⟨rfl,rfl⟩;go_wp2_with fail;refine N.out.mono ?_;rintro e w1 ⟨rfl,S⟩;clear A N c11;replace S:=S.nx HL.out;clear HL HK;obtain ⟨F1,HK,HL⟩:=S
   try dsimp only at HK
   have HX:=HK.out.bx HL.out #[.int .i64 sg,.bool un,.bool true] 297
   clear HL HK;obtain ⟨HB,HK,HL⟩:=HX;have b2:=HB.out.cell 2;have O:=HK.out.kdover;rw [show deskOver _=_ from ho.out] at O;replace O:=Hd O;have c11:=HK.out.h11;go_wp2_with fail;refine O.out.mono ?_;rintro e w1 ⟨rfl,nd,rfl⟩;replace HL:=Hd (HL.out.drewN nd);replace HK:=Hd (HK.out.drewN nd);go_wp2;go_returns
   exact ⟨⟨_,rfl,RecsK.none HL.out HK.out⟩,HK.out.close HL.out H0.out⟩
  | true =>
   rw [if_pos rfl,if_pos rfl];replace ho:=Hd ho
   go_enter func123,ntmps123
   go_wp2_with fail;refine A.out.mono ?_;rintro e w1 ⟨rfl,rfl⟩;go_wp2_with fail;refine N.out.mono ?_;rintro e w1 ⟨rfl,S⟩;clear A N c11;replace S:=S.nx HL.out;clear HL HK;obtain ⟨F1,HK,HL⟩:=S
   try dsimp only at HK
   have HX:=HK.out.bx HL.out #[.int .i64 sg,.bool un,.bool true] 297
   clear HL HK;obtain ⟨HB,HK,HL⟩:=HX;have b2:=HB.out.cell 2;have O:=HK.out.kdover;rw [show deskOver _=_ from ho.out] at O;replace O:=Hd O;have c11:=HK.out.h11;go_wp2_with fail;refine O.out.mono ?_;rintro e w1 ⟨rfl,nd,rfl⟩;replace HL:=Hd (HL.out.drewN nd);replace HK:=Hd (HK.out.drewN nd);clear c11;have P:=Hd (HK.out.kdend);have c11:=HK.out.h11;go_wp2_with fail;refine P.out.mono ?_;rintro e w1 ⟨rfl,S⟩;clear P c11;replace S:=S.nx HL.out;clear HL HK;obtain ⟨F1,HK,HL⟩:=S
   try dsimp only at HK
   have P:=Hd (HK.out.kgfree);have c9:=HK.out.h9;go_wp2_with fail;refine P.out.mono ?_;rintro e w1 ⟨rfl,S⟩;clear P c9;replace S:=S.nx HL.out;clear HL HK;obtain ⟨F1,HK,HL⟩:=S
   try dsimp only at HK
   go_wp2;go_returns
   exact ⟨⟨_,rfl,RecsK.one HL.out HK.out ⟨7,cpu,0,0,_⟩⟩,(HK.out.alloc _).close (HL.out.alloc _) H0.out⟩
 | false =>
  rw [if_neg (by decide)] at hr;obtain ⟨k3,b⟩:=r;replace hr:=Hd hr;dsimp only at hk2
  cases b with
  | false =>
   rw [if_neg (by decide)] at hk2;subst hk2;unfold kTurnC kTurnR
   cases ho:deskOver k2.dk with
   | false =>
    rw [if_neg (by decide),if_neg (by decide)];replace ho:=Hd ho
    go_enter func123,ntmps123
    go_wp2_with fail;refine A.out.mono ?_;rintro e w1 ⟨rfl,rfl⟩;go_wp2_with fail;refine N.out.mono ?_;rintro e w1 ⟨rfl,S⟩;clear A N c11;replace S:=S.nx HL.out;clear HL HK;obtain ⟨F1,HK,HL⟩:=S
    try dsimp only at HK
    have HX:=HK.out.bx HL.out #[.int .i64 sg,.bool un,.bool false] 297
    clear HL HK;obtain ⟨HB,HK,HL⟩:=HX;have b0:=HB.out.cell 0;have b1:=HB.out.cell 1;have b2:=HB.out.cell 2
    have P:=HK.out.kstage hf.out hk.out ⟨sg,un,false⟩ cpu by'
    rw [← hr.out] at P;dsimp only at P;replace P:=Hd P;go_wp2_with fail;refine P.out.mono ?_;rintro e w1 ⟨rfl,S⟩;clear P b0 b1 b2;replace S:=S.nx HL.out;clear HL HK;obtain ⟨F1,HK,HL⟩:=S
    try dsimp only at HK
    have O:=HK.out.kdover;rw [show deskOver _=_ from ho.out] at O;replace O:=Hd O;have c11:=HK.out.h11;go_wp2_with fail;refine O.out.mono ?_;rintro e w1 ⟨rfl,nd,rfl⟩;replace HL:=Hd (HL.out.drewN nd);replace HK:=Hd (HK.out.drewN nd);go_wp2;go_returns
    exact ⟨⟨_,rfl,RecsK.none HL.out HK.out⟩,HK.out.close HL.out H0.out⟩
   | true =>
    rw [if_pos rfl,if_pos rfl];replace ho:=Hd ho
    go_enter func123,ntmps123
    go_wp2_with fail;refine A.out.mono ?_;rintro e w1 ⟨rfl,rfl⟩;go_wp2_with fail;refine N.out.mono ?_;rintro e w1 ⟨rfl,S⟩;clear A N c11;replace S:=S.nx HL.out;clear HL HK;obtain ⟨F1,HK,HL⟩:=S
    try dsimp only at HK
    have HX:=HK.out.bx HL.out #[.int .i64 sg,.bool un,.bool false] 297
    clear HL HK;obtain ⟨HB,HK,HL⟩:=HX;have b0:=HB.out.cell 0;have b1:=HB.out.cell 1;have b2:=HB.out.cell 2
    have P:=HK.out.kstage hf.out hk.out ⟨sg,un,false⟩ cpu by'
    rw [← hr.out] at P;dsimp only at P;replace P:=Hd P;go_wp2_with fail;refine P.out.mono ?_;rintro e w1 ⟨rfl,S⟩;clear P b0 b1 b2;replace S:=S.nx HL.out;clear HL HK;obtain ⟨F1,HK,HL⟩:=S
    try dsimp only at HK
    have O:=HK.out.kdover;rw [show deskOver _=_ from ho.out] at O;replace O:=Hd O;have c11:=HK.out.h11;go_wp2_with fail;refine O.out.mono ?_;rintro e w1 ⟨rfl,nd,rfl⟩;replace HL:=Hd (HL.out.drewN nd);replace HK:=Hd (HK.out.drewN nd);clear c11;have P:=Hd (HK.out.kdend);have c11:=HK.out.h11;go_wp2_with fail;refine P.out.mono ?_;rintro e w1 ⟨rfl,S⟩;clear P c11;replace S:=S.nx HL.out;clear HL HK;obtain ⟨F1,HK,HL⟩:=S
    try dsimp only at HK
    have P:=Hd (HK.out.kgfree);have c9:=HK.out.h9;go_wp2_with fail;refine P.out.mono ?_;rintro e w1 ⟨rfl,S⟩;clear P c9;replace S:=S.nx HL.out;clear HL HK;obtain ⟨F1,HK,HL⟩:=S
    try dsimp only at HK
    go_wp2;go_returns
    exact ⟨⟨_,rfl,RecsK.one HL.out HK.out ⟨7,cpu,0,0,_⟩⟩,(HK.out.alloc _).close (HL.out.alloc _) H0.out⟩
  | true =>
   rw [if_pos rfl] at hk2;subst hk2;unfold kTurnC kTurnR
   cases ho:deskOver (deskDone k3.dk).1 with
   | false =>
    rw [if_neg (by decide),if_neg (by decide)];replace ho:=Hd ho
    go_enter func123,ntmps123
    go_wp2_with fail;refine A.out.mono ?_;rintro e w1 ⟨rfl,rfl⟩;go_wp2_with fail;refine N.out.mono ?_;rintro e w1 ⟨rfl,S⟩;clear A N c11;replace S:=S.nx HL.out;clear HL HK;obtain ⟨F1,HK,HL⟩:=S
    try dsimp only at HK
    have HX:=HK.out.bx HL.out #[.int .i64 sg,.bool un,.bool false] 297
    clear HL HK;obtain ⟨HB,HK,HL⟩:=HX;have b0:=HB.out.cell 0;have b1:=HB.out.cell 1;have b2:=HB.out.cell 2
    have P:=HK.out.kstage hf.out hk.out ⟨sg,un,false⟩ cpu by'
    rw [← hr.out] at P;dsimp only at P;replace P:=Hd P;go_wp2_with fail;refine P.out.mono ?_;rintro e w1 ⟨rfl,S⟩;clear P b0 b1 b2;replace S:=S.nx HL.out;clear HL HK;obtain ⟨F1,HK,HL⟩:=S
    try dsimp only at HK
    have P:=Hd (HK.out.kddone);have c11:=HK.out.h11;go_wp2_with fail;refine P.out.mono ?_;rintro e w1 ⟨rfl,S⟩;clear P c11;replace S:=S.nx HL.out;clear HL HK;obtain ⟨F1,HK,HL⟩:=S
    try dsimp only at HK
    have O:=HK.out.kdover;rw [show deskOver _=_ from ho.out] at O;replace O:=Hd O;have c11:=HK.out.h11;go_wp2_with fail;refine O.out.mono ?_;rintro e w1 ⟨rfl,nd,rfl⟩;replace HL:=Hd (HL.out.drewN nd);replace HK:=Hd (HK.out.drewN nd);go_wp2;go_returns
    exact ⟨⟨_,rfl,RecsK.none HL.out HK.out⟩,HK.out.close HL.out H0.out⟩
   | true =>
    rw [if_pos rfl,if_pos rfl];replace ho:=Hd ho
    go_enter func123,ntmps123
    go_wp2_with fail;refine A.out.mono ?_;rintro e w1 ⟨rfl,rfl⟩;go_wp2_with fail;refine N.out.mono ?_;rintro e w1 ⟨rfl,S⟩;clear A N c11;replace S:=S.nx HL.out;clear HL HK;obtain ⟨F1,HK,HL⟩:=S
    try dsimp only at HK
    have HX:=HK.out.bx HL.out #[.int .i64 sg,.bool un,.bool false] 297
    clear HL HK;obtain ⟨HB,HK,HL⟩:=HX;have b0:=HB.out.cell 0;have b1:=HB.out.cell 1;have b2:=HB.out.cell 2
    have P:=HK.out.kstage hf.out hk.out ⟨sg,un,false⟩ cpu by'
    rw [← hr.out] at P;dsimp only at P;replace P:=Hd P;go_wp2_with fail;refine P.out.mono ?_;rintro e w1 ⟨rfl,S⟩;clear P b0 b1 b2;replace S:=S.nx HL.out;clear HL HK;obtain ⟨F1,HK,HL⟩:=S
    try dsimp only at HK
    have P:=Hd (HK.out.kddone);have c11:=HK.out.h11;go_wp2_with fail;refine P.out.mono ?_;rintro e w1 ⟨rfl,S⟩;clear P c11;replace S:=S.nx HL.out;clear HL HK;obtain ⟨F1,HK,HL⟩:=S
    try dsimp only at HK
    have O:=HK.out.kdover;rw [show deskOver _=_ from ho.out] at O;replace O:=Hd O;have c11:=HK.out.h11;go_wp2_with fail;refine O.out.mono ?_;rintro e w1 ⟨rfl,nd,rfl⟩;replace HL:=Hd (HL.out.drewN nd);replace HK:=Hd (HK.out.drewN nd);clear c11;have P:=Hd (HK.out.kdend);have c11:=HK.out.h11;go_wp2_with fail;refine P.out.mono ?_;rintro e w1 ⟨rfl,S⟩;clear P c11;replace S:=S.nx HL.out;clear HL HK;obtain ⟨F1,HK,HL⟩:=S
    try dsimp only at HK
    have P:=Hd (HK.out.kgfree);have c9:=HK.out.h9;go_wp2_with fail;refine P.out.mono ?_;rintro e w1 ⟨rfl,S⟩;clear P c9;replace S:=S.nx HL.out;clear HL HK;obtain ⟨F1,HK,HL⟩:=S
    try dsimp only at HK
    go_wp2;go_returns
    exact ⟨⟨_,rfl,RecsK.one HL.out HK.out ⟨7,cpu,0,0,_⟩⟩,(HK.out.alloc _).close (HL.out.alloc _) H0.out⟩
end
end Go.Proofs.YtiocbpabbjgkhaaGreatDoor
