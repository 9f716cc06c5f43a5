/- Part 14 of the proof: contracts and plain laws, each under the conditions that it names. -/
import Derived.Test.YtiocbpabbjgkhaaGreatDoorPow13
import Derived.Deep.RegionLaw
set_option maxRecDepth 100000
set_option maxHeartbeats 20000000
set_option linter.unusedVariables false
set_option linter.unusedSimpArgs false
namespace Go.Proofs.YtiocbpabbjgkhaaGreatDoor
open Go.RowKit Go.Proofs.Tryz
variable {w w' : World} {F : Nat → Prop} {p : Nat}
structure Stash where
 pool:List Int
 kept:List (List Int)
structure StashAtQ (w:World) (F:Nat→Prop) (p pp r:Nat) (sv:Nat→Value) (c:Nat→Nat) (s:Stash):Prop where
 head:Blk w p #[.pointer (some ⟨pp,0,none⟩),.int .i64 12,.slice (some ⟨r,0,none⟩) s.kept.length s.kept.length] 231
 pool:PoolAt w (Col F c 0) pp s.pool
 row:Blk w r ((List.range s.kept.length).map sv).toArray 65
 fr:Col F c 1 r
 fp:Col F c 3 p
 lt:∀ b,F b→b < w.heap.size
 ls:∀ i,i < s.kept.length→IntsAt w (Col F c (10+i)) (sv i) (s.kept.getD i [])
 n1:1≤s.kept.length
 n64:s.kept.length≤64
 few:∀ i,i < s.kept.length→(s.kept.getD i []).length≤4
def StashAt (w:World) (F:Nat→Prop) (p:Nat) (s:Stash):Prop:=∃ pp r sv c,StashAtQ w F p pp r sv c s
theorem StashAtQ.at {p pp r:Nat} {sv:Nat→Value} {c:Nat→Nat} {s:Stash} (h:StashAtQ w F p pp r sv c s):StashAt w F p s:=⟨pp,r,sv,c,h⟩
theorem StashAtQ.ch {F G:Nat→Prop} {p pp r:Nat} {sv:Nat→Value} {c:Nat→Nat} {s:Stash} (h:StashAtQ w F p pp r sv c s) (hc:Ch G w w') (hd:∀ b,F b→¬ G b):StashAtQ w' F p pp r sv c s :=
 ⟨h.head.ch hc (hd _ h.fp.1),h.pool.ch hc (fun b hb=>hd b hb.1),h.row.ch hc (hd _ h.fr.1),h.fr,h.fp,fun b hb=>Nat.lt_of_lt_of_le (h.lt b hb) hc.size,fun i hi=>(h.ls i hi).ch hc (fun b hb=>hd b hb.1),h.n1,h.n64,h.few⟩
theorem StashAt.ch {F G:Nat→Prop} {s:Stash} (h:StashAt w F p s) (hc:Ch G w w') (hd:∀ b,F b→¬ G b):StashAt w' F p s:=by
 obtain ⟨pp,r,sv,c,h⟩:=h
 exact (h.ch hc hd).at
theorem StashAt.below {s:Stash} (h:StashAt w F p s) (hb:Below w.heap.size w w'):StashAt w' F p s:=h.ch (Ch.off hb) (fun _ _ h=>h)
theorem StashAt.ltF {s:Stash} (h:StashAt w F p s):∀ b,F b→b < w.heap.size:=by
 obtain ⟨pp,r,sv,c,h⟩:=h
 exact h.lt
theorem StashAt.mono {F G:Nat→Prop} {s:Stash} (h:StashAt w F p s) (hd:∀ b,F b→G b) (hG:∀ b,G b→b < w.heap.size):StashAt w G p s:=by
 obtain ⟨pp,r,sv,c,h⟩:=h
 exact ⟨pp,r,sv,c,h.head,h.pool.mono (fun b hb=>⟨hd b hb.1,hb.2⟩),h.row,⟨hd _ h.fr.1,h.fr.2⟩,⟨hd _ h.fp.1,h.fp.2⟩,hG,fun i hi=>(h.ls i hi).mono (fun b hb=>⟨hd b hb.1,hb.2⟩),h.n1,h.n64,h.few⟩
theorem StashAtQ.mono {F G:Nat→Prop} {p pp r:Nat} {sv:Nat→Value} {c:Nat→Nat} {s:Stash} (h:StashAtQ w F p pp r sv c s) (hd:∀ b,F b→G b) (hG:∀ b,G b→b < w.heap.size):StashAtQ w G p pp r sv c s :=
 ⟨h.head,h.pool.mono (fun b hb=>⟨hd b hb.1,hb.2⟩),h.row,⟨hd _ h.fr.1,h.fr.2⟩,⟨hd _ h.fp.1,h.fp.2⟩,hG,fun i hi=>(h.ls i hi).mono (fun b hb=>⟨hd b hb.1,hb.2⟩),h.n1,h.n64,h.few⟩
theorem StashAtQ.cells {p pp r:Nat} {sv:Nat→Value} {c:Nat→Nat} {s:Stash} (h:StashAtQ w F p pp r sv c s):w.cell? ⟨p,0,none⟩=some (.pointer (some ⟨pp,0,none⟩))∧w.cell? ⟨p,2,none⟩=some (.slice (some ⟨r,0,none⟩) s.kept.length s.kept.length):=⟨h.head.cell 0,h.head.cell 2⟩
theorem StashAtQ.kc {p pp r:Nat} {sv:Nat→Value} {c:Nat→Nat} {s:Stash} (h:StashAtQ w F p pp r sv c s) {i:Nat} (hi:i < s.kept.length):w.cell? ⟨r,i,none⟩=some (sv i):=by
 rw [h.row.cell,List.getElem?_toArray,List.getElem?_map,List.getElem?_range hi]
 rfl
theorem StashAtQ.turnPool {p pp r:Nat} {sv:Nat→Value} {c:Nat→Nat} {s:Stash} (h:StashAtQ w F p pp r sv c s) {l:List Int} (hp:PoolAt w' (Col F c 0) pp l) (hc:Ch (Col F c 0) w w'):StashAtQ w' F p pp r sv c ⟨l,s.kept⟩ :=
 ⟨h.head.ch hc (Col.apart (by omega) _ h.fp),hp,h.row.ch hc (Col.apart (by omega) _ h.fr),h.fr,h.fp,fun b hb=>Nat.lt_of_lt_of_le (h.lt b hb) hc.size,fun i hi=>(h.ls i hi).ch hc (Col.apart (by omega)),h.n1,h.n64,h.few⟩
theorem StashAtQ.set {p pp r:Nat} {sv:Nat→Value} {c:Nat→Nat} {s:Stash} (h:StashAtQ w F p pp r sv c s) {i:Nat} (hi:i < s.kept.length) {v:Value} {l:List Int} (hl:IntsAt w' (Plus w w' (Col F c (10+i))) v l) (hc:Ch (Col F c (10+i)) w w') (hle:l.length≤4) :
  StashAtQ (w'.setCell ⟨r,i,none⟩ v) (Plus w w' F) p pp r (fun j=>if j=i then v else sv j) (recol w c (10+i)) ⟨s.pool,s.kept.set i l⟩:=by
 have hlt:=h.row.lt
 have hp:∀ j b,j≠1→Col F c j b→b≠r:=fun j b hj hb e=>by subst e;have:=hb.2.symm.trans h.fr.2;omega
 have hc2:Ch (fun b=>Col F c (10+i) b∨b=r) w (w'.setCell ⟨r,i,none⟩ v):=(hc.mono (fun _ _ h=>.inl h)).setCell (p:=⟨r,i,none⟩) (fun _=>.inr rfl) v
 have ap:∀ j,j≠1→j≠10+i→∀ b,Col F c j b→¬ (Col F c (10+i) b∨b=r):=fun j h0 hj b hb e=>e.elim (Col.apart hj b hb) (hp j b h0 hb)
 have hset:=(h.row.ch hc (Col.apart (by omega) _ h.fr)).set i v
 refine ⟨?_,(h.pool.ch hc2 (ap 0 (by omega) (by omega))).mono (Col.old h.lt),?_,Col.old h.lt _ h.fr,Col.old h.lt _ h.fp,fun b hb=>by simpa using Plus.lt h.lt hc.size b hb,fun j hj=>?_,by simpa using h.n1,by simpa using h.n64,fun j hj=>?_⟩
 ·simp only [List.length_set]
  exact h.head.ch hc2 (ap 3 (by omega) (by omega) _ h.fp)
 ·simp only [List.length_set]
  rw [List.setIfInBounds_toArray] at hset
  have e:((List.range s.kept.length).map sv).set i v=(List.range s.kept.length).map (fun j=>if j=i then v else sv j):=by
   apply List.ext_getElem?
   intro k
   by_cases hk:k < s.kept.length
   ·rw [List.getElem?_set]
    simp only [List.getElem?_map,List.getElem?_range hk,Option.map_some,List.length_map,List.length_range]
    by_cases e:i=k
    ·subst e;simp [hi]
    ·simp [e,Ne.symm e]
   ·rw [List.getElem?_eq_none (by simp;omega),List.getElem?_eq_none (by simp;omega)]
  rw [← e]
  exact hset
 ·have hj':j < s.kept.length:=by simpa using hj
  by_cases e:j=i
  ·subst e
   show IntsAt _ _ _ ((s.kept.set j l).getD j [])
   rw [getD_set_same hi]
   simp only [if_true]
   exact (hl.ch ((Ch.refl (fun b=>b=r) w').put j v) (fun b hb e=>by have e:b=r:=e;exact hb.elim (fun h1=>hp _ b (by omega) h1 e) (fun h1=>by omega))).mono (Col.new h.lt)
  ·show IntsAt _ _ _ ((s.kept.set i l).getD j [])
   rw [getD_set_other e]
   simp only [e,if_false]
   exact ((h.ls j hj').ch hc2 (ap (10+j) (by omega) (by omega))).mono (Col.old h.lt)
 ·have hj':j < s.kept.length:=by simpa using hj
  by_cases e:j=i
  ·subst e
   show ((s.kept.set j l).getD j []).length≤4
   rw [getD_set_same hi]
   exact hle
  ·show ((s.kept.set i l).getD j []).length≤4
   rw [getD_set_other e]
   exact h.few j hj'
theorem hmay_any (w:World) {s:Stash} (h:StashAt w F p s) (cpu:Int):Calls prog 234 #[.pointer (some ⟨p,0,none⟩),.int .i64 cpu] w fun e w'=>e=.returned (.int .i64 (mayF s.kept.length cpu))∧w=w':=by
 obtain ⟨pp,r,sv,c,h⟩:=h;obtain ⟨c0,c2⟩:=h.cells;clear h;generalize s.kept.length=n at *
 rcases may_cases n cpu with ⟨h1,e⟩ | ⟨h1,h2,e⟩ | ⟨i,rfl,h2,e⟩
 all_goals
  rw [e];clear e
  go_enter func234,ntmps234
  go_wp2;go_returns
  exact ⟨rfl,rfl⟩
theorem hcont_any {v:Value} {l:List Int} (x:Int) (w:World) (b:Nat) (h:IntsAt w F v l) (hb:w.cell? ⟨b,0,none⟩=some (.int .i64 x)):Calls prog 295 #[v,.pointer (some ⟨b,0,none⟩)] w fun e w'=>e=.returned (.bool (l.contains x))∧w=w':=by
 have A:=Hd (ints_contains w h x);clear h;generalize l.contains x=y at *
 go_enter func295,ntmps295
 go_wp2_with fail;refine A.out.mono ?_;rintro e w1 ⟨rfl,rfl⟩;go_wp2;go_returns
 exact ⟨rfl,rfl⟩
def keptHas (s:Stash) (id:Int):Bool:=s.kept.any (fun l=>l.contains id)
def findK (id:Int):List (List Int)→Int
 | []=>-1
 | x::t=>if x.contains id then 0 else if findK id t < 0 then -1 else findK id t+1
theorem findK_at {id:Int}:∀ {l:List (List Int)} {i:Nat},i < l.length→(∀ j,j < i→(l.getD j []).contains id=false)→(l.getD i []).contains id=true→findK id l=i
 | [],i,h,_,_=>by simp at h
 | x::t,0,_,_,h=>by have h':x.contains id=true:=h;unfold findK;rw [if_pos h'];rfl
 | x::t,i+1,h,hj,hi=>by
  have h0:x.contains id=false:=hj 0 (by omega)
  have:=findK_at (l:=t) (i:=i) (by simpa using h) (fun j hj'=>hj (j+1) (by omega)) hi
  unfold findK
  rw [if_neg (by rw [h0];simp),this,if_neg (by omega)]
  omega
theorem findK_none {id:Int}:∀ {l:List (List Int)},(∀ j,j < l.length→(l.getD j []).contains id=false)→findK id l=-1
 | [],_=>rfl
 | x::t,h=>by
  have h0:x.contains id=false:=h 0 (by simp)
  have:=findK_none (l:=t) (fun j hj=>h (j+1) (by simpa using hj))
  unfold findK
  rw [if_neg (by rw [h0];simp),this,if_pos (by omega)]
theorem findK_any {id:Int}:∀ {l:List (List Int)},(l.any (fun l=>l.contains id))=decide (0≤findK id l)
 | []=>rfl
 | x::t=>by
  have ih:=findK_any (id:=id) (l:=t)
  unfold findK;rw [List.any_cons]
  by_cases h:x.contains id=true
  ·rw [h,if_pos rfl];simp
  ·have h':x.contains id=false:=by simpa using h
   rw [h',if_neg (by simp),Bool.false_or,ih,decide_eq_decide]
   split <;> omega
theorem hindex_any (w:World) {p pp r:Nat} {sv:Nat→Value} {c:Nat→Nat} {s:Stash} (h:StashAtQ w F p pp r sv c s) (id:Int) (b:Nat) (hb:w.cell? ⟨b,0,none⟩=some (.int .i64 id)):Calls prog 335 #[.slice (some ⟨r,0,none⟩) s.kept.length s.kept.length,.func (.func 295) #[] #[.pointer (some ⟨b,0,none⟩)]] w fun e w'=>e=.returned (.int .i64 (findK id s.kept))∧w=w':=by
 have hA:Hid (∀ i,i < s.kept.length→w.cell? ⟨r,i,none⟩=some (sv i)∧Calls prog 295 #[sv i,.pointer (some ⟨b,0,none⟩)] w fun e w'=>e=.returned (.bool ((s.kept.getD i []).contains id))∧w=w'):=Hd (fun i hi=>⟨h.kc hi,hcont_any id w b (h.ls i hi) hb⟩)
 have hF1:Hid ((∀ j,j < s.kept.length→(s.kept.getD j []).contains id=false)→findK id s.kept=-1):=Hd (fun hh=>findK_none hh)
 have hF2:Hid (∀ i:Nat,i < s.kept.length→(∀ j,j < i→(s.kept.getD j []).contains id=false)→(s.kept.getD i []).contains id=true→findK id s.kept=i):=Hd (fun i hi h1 h2=>findK_at hi h1 h2)
 have hform:Hid (∀ i,i < s.kept.length→∃ b n cap,sv i=.slice b n cap):=Hd (fun i hi=>by obtain ⟨b,cap,e⟩:=RowAt.form (h.ls i hi);exact ⟨b,_,cap,e⟩)
 have n64:=h.n64
 obtain ⟨g,hg⟩:∃ g:Nat→Bool,g=fun j=>(s.kept.getD j []).contains id:=⟨_,rfl⟩
 have hg':∀ j,(s.kept.getD j []).contains id=g j:=fun j=>by rw [hg]
 simp only [hg'] at hA hF1 hF2
 generalize findK id s.kept=R at *;generalize s.kept.length=n at *;clear h hg hg' hb
 go_enter func335,ntmps335
 go_wp2
 go_loop [8,5] (fun iv _=>∃ k:Nat,iv=.int .i64 k∧k≤n∧Hid (∀ j,j < k→g j=false)) (fun iv _=>n - (intOf iv).toNat)
 case atStart=>exact ⟨0,rfl,by omega,Hd (fun j hj=>by omega)⟩
 case round =>
  obtain ⟨k,rfl,hk,HE⟩:=hrel
  by_cases hlt:k < n
  ·obtain ⟨ck,A⟩:=hA.out k hlt
   obtain ⟨b1,n1,cp1,e1⟩:=hform.out k hlt
   rw [e1] at ck A;replace A:=Hd A;have h1:=Hd (hF2.out k hlt HE.out)
   obtain ⟨y,hy⟩:∃ y,y=g k:=⟨_,rfl⟩
   rw [← hy] at A h1;replace hy:=Hd hy;clear e1
   cases y with
   | true =>
    go_wp2_with fail;refine A.out.mono ?_;rintro e w1 ⟨rfl,rfl⟩;go_wp2;go_returns;rw [h1.out (by first | rfl | trivial)]
    exact ⟨rfl,rfl⟩
   | false =>
    go_wp2_with fail;refine A.out.mono ?_;rintro e w1 ⟨rfl,rfl⟩;go_wp2
    go_round
    case rel =>
     refine ⟨k+1,by go_num,hlt,Hd (fun j hj=>?_)⟩
     by_cases e:j < k
     ·exact HE.out j e
     ·rw [show j=k by omega,← hy.out]
    case measure=>simp [intOf];omega
  ·have:k=n:=by omega
   subst this;go_wp2;go_returns;rw [hF1.out HE.out]
   exact ⟨rfl,rfl⟩
theorem hcontf_any (w:World) {p pp r:Nat} {sv:Nat→Value} {c:Nat→Nat} {s:Stash} (h:StashAtQ w F p pp r sv c s) (id:Int) (b:Nat) (hb:w.cell? ⟨b,0,none⟩=some (.int .i64 id)):Calls prog 294 #[.slice (some ⟨r,0,none⟩) s.kept.length s.kept.length,.func (.func 295) #[] #[.pointer (some ⟨b,0,none⟩)]] w fun e w'=>e=.returned (.bool (keptHas s id))∧w=w':=by
 have A:=Hd (hindex_any w h id b hb);unfold keptHas;rw [findK_any];generalize findK id s.kept=R at *;generalize s.kept.length=n at *;clear h
 go_enter func294,ntmps294
 go_wp2_with fail;refine A.out.mono ?_;rintro e w1 ⟨rfl,rfl⟩;go_wp2;go_returns
 exact ⟨rfl,rfl⟩
theorem quiet_dir {P:Program} {f:FuncId} {args:Array Value} {W:World} {n:Nat} {v:Value} (h:Calls P f args (W.drewN n) fun e w'=>e=.returned v∧∃ k,w'=(W.drewN n).drewN k):Calls P f args (W.drewN n) fun e w'=>e=.returned v∧∃ m,w'=W.drewN m :=
 h.mono fun _ _ ⟨he,m,hm⟩=>⟨he,n+m,by rw [hm,World.drewN_drewN]⟩
def stashHas (s:Stash) (id:Int):Bool:=poolOut s.pool id && !keptHas s id
theorem hhas_any (w:World) {s:Stash} (h:StashAt w F p s) (id:Int):Calls prog 236 #[.pointer (some ⟨p,0,none⟩),.int .i64 id] w fun e w'=>e=.returned (.bool (stashHas s id))∧Below w.heap.size w w':=by
 have hb0:Below w.heap.size w (w.alloc (.cells #[.int .i64 id] 3)):=(Below.refl _ _).alloc (Nat.le_refl _) _
 replace h:=h.below hb0
 obtain ⟨pp,r,sv,c,h⟩:=h;obtain ⟨c0,c2⟩:=h.cells
 have A:=fun n=>Hd (pout_any ((w.alloc (.cells #[.int .i64 id] 3)).drewN n) (h.pool.below (belowN _ n)) id)
 have B:=fun n=>Hd (hcontf_any ((w.alloc (.cells #[.int .i64 id] 3)).drewN n) (h.ch ((Ch.refl (fun _=>False) _).drewN n) (fun _ _ h=>h)) id w.heap.size (cell_at1 _ _ rfl))
 unfold stashHas;generalize s.kept.length=n at *;generalize poolOut s.pool id=x at *;generalize keptHas s id=y at *
 have hfin:Hid (∀ n,Below w.heap.size w ((w.alloc (.cells #[.int .i64 id] 3)).drewN n)):=Hd (fun n=>hb0.trans ((belowN _ n).mono hb0.size))
 have c3:(w.alloc (.cells #[.int .i64 id] 3)).cell? ⟨w.heap.size,0,none⟩=some (.int .i64 id):=cell_at1 _ _ rfl
 clear h hb0
 obtain ⟨W,hW⟩:∃ W,W=w.alloc (.cells #[.int .i64 id] 3):=⟨_,rfl⟩
 rw [← hW] at c0 c2 c3 A B hfin;replace hW:=Hd hW
 cases x
 all_goals cases y
 all_goals
  go_enter func236,ntmps236
  go_wp2;rw [← hW.out]
  go_quiet ((first | (go_at_call 293;exact quiet_dir (A _).out) | (go_at_call 294;exact quiet_left (B _).out)))
  go_wp2;go_returns
  exact ⟨rfl,hfin.out _⟩
theorem step_app1 {ops : Array Oper} {o : Oper} {A : Act} {w : World} {K : Act → World → Prop} {Q : Exit → Act → World → Prop} {E : Prop} (hgd : o.guard = none) (s x : Operand)
    (ho : o.op = .call { callee := .builtin .append, args := #[s, x], argTypes := #[65, 65] }) {F : Nat → Prop} {v : Value} {l : List Int} (h : IntsAt w F v l) {b c : Nat} {n : Int} (hs : A.eval s = v) (hx : A.eval x = .slice (some ⟨b, 0, none⟩) 1 c) (hn : w.cell? ⟨b, 0, none⟩ = some (.int .i64 n)) (hl : l.length ≤ 1099511627776)
    (hK : ∀ v' w', IntsAt w' (Plus w w' F) v' (l ++ [n]) → Ch F w w' → K (A.put o.dst v') w') : if Region.wanted o (yielded ops A.tmps) = true then Oper.wp prog o A w K Q else E := by
  have hw : Region.wanted o (yielded ops A.tmps) = true := by simp [Region.wanted, hgd]
  rw [if_pos hw]
  obtain ⟨i, hi, hz, hs1, hb1⟩ := info_parts info3
  obtain ⟨v', w', hr, h2, h3⟩ := run_app (P := prog) (ty := o.type) underlying65 hi hz hs1 hb1 rfl (by omega) h (a := ⟨b, 0, none⟩) (m := 1) (c := c) (news := [.int .i64 n]) rfl (fun j u hj => by
    cases j with
    | zero => have : u = .int .i64 n := by simpa using hj.symm
              subst this
              exact hn
    | succ j => simp at hj) (by simp [Value.oneCell']) (by omega) (by unfold maxLen; omega) (by omega)
  unfold Oper.wp execOp
  simp only [ho, resolve, invoke, builtin, Sem.run_bind, Sem.run_pure, Result.andThen_ok, List.map_toArray, List.map_cons, List.map_nil, hs, hx, hr]
  refine hK v' w' ?_ h3
  unfold IntsAt
  simpa using h2
def fillOne (s:Stash) (i:Nat):Stash:=if (poolTake s.pool).2.2=0 then ⟨(poolTake s.pool).1,s.kept.set i (s.kept.getD i []++[(poolTake s.pool).2.1])⟩ else ⟨(poolTake s.pool).1,s.kept⟩
def fillN (s:Stash) (i:Nat):Nat→Stash
 | 0=>s
 | k+1=>fillOne (fillN s i k) i
theorem fillN_len (s:Stash) (i:Nat):∀ k,(fillN s i k).kept.length=s.kept.length
 | 0=>rfl
 | k+1=>by
  have:=fillN_len s i k
  simp only [fillN,fillOne]
  split <;> simp [this]
theorem fillN_few (s:Stash) (i:Nat) (hi:i < s.kept.length) (h:s.kept.getD i []=[]):∀ k,((fillN s i k).kept.getD i []).length≤k
 | 0=>by
  show (s.kept.getD i []).length≤0
  rw [h]
  exact Nat.le_refl _
 | k+1=>by
  have:=fillN_few s i hi h k
  simp only [fillN,fillOne]
  split
  ·rw [getD_set_same (by rw [fillN_len];exact hi),List.length_append]
   simp only [List.length_cons,List.length_nil]
   omega
  ·show ((fillN s i k).kept.getD i []).length≤k+1
   omega
def stashFill (s:Stash) (i:Nat):Stash:=if s.kept.getD i []≠[] then s else fillN s i 2
theorem hfill_any (w:World) {s:Stash} (h:StashAt w F p s) (i:Nat) (hi:i < s.kept.length):Calls prog 235 #[.pointer (some ⟨p,0,none⟩),.int .i64 i] w fun e w'=>e=.returned (.tuple #[])∧StashAt w' (Plus w w' F) p (stashFill s i)∧Ch F w w':=by
 have HT:=Hd h;have hltw:=Hd h.ltF;obtain ⟨pp,r,sv,c,h⟩:=h;obtain ⟨c0,c2⟩:=h.cells
 have ck:=h.kc hi
 obtain ⟨b0,cp0,hsv⟩:=RowAt.form (h.ls i hi)
 rw [hsv] at ck;unfold stashFill
 obtain ⟨n,hn⟩:∃ n,n=s.kept.length:=⟨_,rfl⟩
 by_cases h0:s.kept.getD i []=[]
 ·rw [if_neg (by simpa using h0)]
  rw [h0] at ck
  simp only [List.length_nil] at ck
  have hfew:=Hd (fillN_few s i hi h0);have H0:=Hd h
  have n64:n≤64:=by have:=h.n64;omega
  have hin:i < n:=by omega
  rw [← hn] at c2;replace hn:=Hd hn;replace hi:=Hd hi;clear h hsv h0
  go_enter func235,ntmps235
  go_wp2
  go_loopw [15,4,5] (fun iv _ _ wr=>∃ k:Nat,iv=.int .i64 k∧k≤2∧Hid (∃ sv c,StashAtQ wr (Plus w wr F) p pp r sv c (fillN s i k))∧Hid (Ch F w wr)) (fun iv _ _ _=>2 - (intOf iv).toNat)
  case atStart=>exact ⟨0,rfl,by omega,Hd ⟨sv,c,by rw [Plus.self];exact H0.out⟩,Hd (Ch.refl _ _)⟩
  case round =>
   clear c0 c2 ck H0;obtain ⟨k,rfl,hk,H,HC⟩:=hrel
   by_cases hlt:k < 2
   ·obtain ⟨sv,c,X⟩:=H.out
    have hik:i < (fillN s i k).kept.length:=by rw [fillN_len];exact hi.out
    have A:=ptake_any wr X.pool
    obtain ⟨c0,c2⟩:=X.cells
    have hst:Hid (fillN s i (k+1)=fillOne (fillN s i k) i):=Hd rfl
    have hfk:=Hd (hfew.out k)
    obtain ⟨sk,hsk⟩:∃ sk,sk=fillN s i k:=⟨_,rfl⟩
    rw [← hsk] at A X hik hst hfk
    have hlk:Hid (sk.kept.length=n):=Hd (by rw [hsk,fillN_len,hn.out])
    unfold fillOne at hst
    obtain ⟨T,hT⟩:∃ T,T=poolTake sk.pool:=⟨_,rfl⟩
    rw [← hT] at A hst;obtain ⟨l2,id,why⟩:=T;dsimp only at A hst;have hX:=Hd X;replace A:=Hd A;replace hik:=Hd hik;clear X hT hsk c2 H;go_wp2_with fail;refine A.out.mono ?_;rintro e w2 ⟨rfl,h1,h2,h3⟩
    have X2:=hX.out.turnPool h1 h2
    replace h2:=Hd h2;replace h3:=Hd h3;clear h1 c0
    by_cases hw:why=0
    ·subst hw
     rw [if_pos rfl] at hst;obtain ⟨d0,d2⟩:=X2.cells
     have dk:=X2.kc hik.out
     have dI:=X2.ls i hik.out
     obtain ⟨q,hq⟩:∃ q,q=sk.kept.getD i []:=⟨_,rfl⟩
     dsimp only at dI d2;rw [← hq] at dI hst hfk;replace hq:=Hd hq
     obtain ⟨b1,cp1,hsv1⟩:=RowAt.form dI
     rw [hsv1] at dk dI;rw [hlk.out] at d2
     have hql:q.length≤1099511627776:=by have:=hfk.out;omega
     obtain ⟨Qx,hQx⟩:∃ Qx,Qx=q++[id]:=⟨_,rfl⟩
     have hQl:Hid (Qx.length≤4):=Hd (by rw [hQx,List.length_append];simp only [List.length_cons,List.length_nil];have:=hfk.out;omega)
     rw [← hQx] at hst;replace hQx:=Hd hQx
     have dI2:=IntsAt.ch dI (((Ch.refl (fun _=>False) w2).alloc (.cells #[.int .i64 id] 3)).drew) (fun _ _ h=>h)
     have X3:=X2.ch (((Ch.refl (fun _=>False) w2).alloc (.cells #[.int .i64 id] 3)).drew) (fun _ _ h=>h)
     obtain ⟨e0,e2⟩:=X3.cells
     have ek:=X3.kc hik.out
     rw [hsv1] at ek;dsimp only at e2;rw [hlk.out] at e2
     have e2':(w2.alloc (.cells #[.int .i64 id] 3)).cell? ⟨p,2,none⟩=some (.slice (some ⟨r,0,none⟩) n n):=e2
     have ek':(w2.alloc (.cells #[.int .i64 id] 3)).cell? ⟨r,i,none⟩=some (.slice b1 q.length cp1):=ek
     replace dI2:=Hd dI2;replace X3:=Hd X3;replace X2:=Hd X2;clear dI hsv1;go_wp2
     go_region_law (refine step_app1 rfl _ _ rfl dI2.out rfl rfl (cell_at1 _ _ rfl) hql ?_;intro v' w3 h5 h6;rw [← hQx.out] at h5;have g2:=keepch h6 e2 (Col.apart (by omega) _ X3.out.fp);have gk:=keepch h6 ek (Col.apart (by omega) _ X3.out.fr);obtain ⟨bv,cv,hv'⟩:=RowAt.form h5;subst hv';have gf:=(X3.out.row.ch h6 (Col.apart (by omega) _ X3.out.fr)).frozen i)
     all_goals
      have Y:=X3.out.set hik.out h5 h6 hQl.out
      have hs6:=h6.size
      simp only [World.size_drew,World.size_alloc] at hs6
      have hcw:=HC.out.size
      have Z:=Y.mono (G:=Plus w (w3.setCell ⟨r,i,none⟩ (.slice bv Qx.length cv)) F) (fun b hb=>(hb.elim (fun e=>e.elim .inl (fun e=>.inr ⟨e.1,by have:=h3.out;have:=e.2;have:=hs6;show b < (w3.setCell _ _).heap.size;rw [World.size_setCell];omega⟩)) (fun e=>.inr ⟨by have h7:(w2.alloc (.cells #[.int .i64 id] 3)).drew.heap.size≤b:=e.1;have:=h3.out;rw [World.size_drew,World.size_alloc] at h7;omega,by show b < (w3.setCell _ _).heap.size;rw [World.size_setCell];exact e.2⟩):Plus w (w3.setCell ⟨r,i,none⟩ (.slice bv Qx.length cv)) F b)) (fun b hb=>hb.elim (fun e=>by have:=hltw.out b e;have:=h3.out;rw [World.size_setCell];omega) (fun e=>e.2))
      have HC2:=(((HC.out.then h2.out (fun b hb e=>e.1.elim (fun e=>e) (fun e=>by have:=e.1;omega))).alloc (.cells #[.int .i64 id] 3)).drew.then h6 (fun b hb e=>(e.1.elim (fun e=>e) (fun e=>by have:=e.1;omega):F b))).setCell (p:=⟨r,i,none⟩) (fun hb=>(X3.out.fr.1.elim (fun e=>e) (fun e=>by have:=e.1;have hb':r < w.heap.size:=hb;omega):F r)) (.slice bv Qx.length cv)
      replace Z:=Hd Z;replace HC2:=Hd HC2;clear Y h5 h6 hs6 g2 gk gf;go_wp2;go_roundw
      case rel=>exact ⟨k+1,by go_num,hlt,Hd ⟨_,_,by rw [hst.out];exact Z.out⟩,HC2⟩
      case measure=>simp [intOf];omega
    ·rw [if_neg hw] at hst
     have hw':(why == 0)=false:=by simpa using hw
     replace X2:=Hd X2;clear hw;go_wp2;go_roundw
     case rel =>
      refine ⟨k+1,by go_num,hlt,Hd ⟨sv,c,?_⟩,Hd (HC.out.then h2.out (fun b hb e=>e.1.elim (fun e=>e) (fun e=>by have:=e.1;omega)))⟩
      rw [hst.out]
      have e:Plus w w2 F=Plus w wr F:=by unfold Plus;rw [h3.out]
      rw [e]
      exact X2.out
     case measure=>simp [intOf];omega
   ·have:k=2:=by omega
    subst this;go_wp2;go_end0;obtain ⟨sv,c,X⟩:=H.out
    exact ⟨rfl,X.at,HC.out⟩
 ·rw [if_pos (by simpa using h0)]
  have hpos:0 < (s.kept.getD i []).length:=List.length_pos_iff.2 h0
  have hin:i < n:=by omega
  have n64:=h.n64;rw [← hn] at c2 n64;generalize s.kept.getD i []=q at *;generalize q.length=m at *;clear h hsv h0 hn hi
  go_enter func235,ntmps235
  go_wp2;go_returns
  exact ⟨rfl,by rw [Plus.self];exact HT.out,Ch.refl _ _⟩
theorem IntsAt.cut {g m cap:Nat} {l:List Int} (h:IntsAt w F (.slice (some ⟨g,0,none⟩) m cap) l) (hpos:0 < l.length) (k:Nat) (hk:k≤l.length):IntsAt w F (.slice (some ⟨g,0,none⟩) k k) (l.take k):=by
 obtain ⟨h1,base,cap',h2,h3,h4,h5⟩:=h
 cases h2
 rcases h5 with ⟨h5,_⟩ | ⟨g',cs,h6,hb,hcs,ht,hF⟩
 ·omega
 ·cases h6
  have hl:(l.take k).length=k:=by rw [List.length_take];omega
  have:=RowAt.of_blk (w:=w) (F:=F) (E:=3) (sz:=1) (g:=g) (n:=k) (cap:=k) (cs:=cs) (xs:=(l.take k).map (Value.int .i64)) hb hF (by rw [List.length_map,hl];omega) (Nat.le_refl _) (by omega) (by omega) (by
   rw [List.map_take,← ht,List.take_take]
   congr 1
   omega)
  unfold IntsAt;rw [hl]
  exact this
def stashAlloc (s:Stash) (cpu:Int):Stash × Int × Int :=
 if mayF s.kept.length cpu≠0 then (s,0,3) else
 if (stashFill s cpu.toNat).kept.getD cpu.toNat []=[] then (stashFill s cpu.toNat,0,5) else
 (⟨(stashFill s cpu.toNat).pool,(stashFill s cpu.toNat).kept.set cpu.toNat (((stashFill s cpu.toNat).kept.getD cpu.toNat []).take (((stashFill s cpu.toNat).kept.getD cpu.toNat []).length - 1))⟩,
  ((stashFill s cpu.toNat).kept.getD cpu.toNat []).getD (((stashFill s cpu.toNat).kept.getD cpu.toNat []).length - 1) 0,0)
theorem stashFill_len (s:Stash) (i:Nat):(stashFill s i).kept.length=s.kept.length:=by
 unfold stashFill
 split
 ·rfl
 ·exact fillN_len s i 2
theorem halloc_any (w:World) {s:Stash} (h:StashAt w F p s) (cpu:Int):Calls prog 158 #[.pointer (some ⟨p,0,none⟩),.int .i64 cpu] w fun e w'=>e=.returned (.tuple #[.int .i64 (stashAlloc s cpu).2.1,.int .i64 (stashAlloc s cpu).2.2])∧StashAt w' (Plus w w' F) p (stashAlloc s cpu).1∧Ch F w w':=by
 have HT:=Hd h;have A:=Hd (hmay_any w h cpu);have hltw:=Hd h.ltF;unfold stashAlloc
 by_cases hm:mayF s.kept.length cpu=0
 ·obtain ⟨i,rfl,hi⟩:=may_yes hm
  rw [hm] at A
  rw [if_neg (by simp [hm])]
  simp only [Int.toNat_natCast]
  have B:=Hd (hfill_any w h i hi);have hl1:=Hd (stashFill_len s i)
  obtain ⟨s1,hs1⟩:∃ s1,s1=stashFill s i:=⟨_,rfl⟩
  rw [← hs1] at B hl1 ⊢
  obtain ⟨q,hq⟩:∃ q,q=s1.kept.getD i []:=⟨_,rfl⟩
  rw [← hq]
  have hi1:Hid (i < s1.kept.length):=Hd (by rw [hl1.out];exact hi)
  obtain ⟨n,hn⟩:∃ n,n=s1.kept.length:=⟨_,rfl⟩
  have hin:i < n:=by rw [hn];exact hi1.out
  replace hn:=Hd hn;replace hq:=Hd hq;clear h hm hs1 hi
  by_cases h0:q=[]
  ·subst h0
   rw [if_pos rfl]
   go_enter func158,ntmps158
   go_wp2_with fail;refine A.out.mono ?_;rintro e w1 ⟨rfl,rfl⟩;go_wp2_with fail;refine B.out.mono ?_;rintro e w1 ⟨rfl,h1,h2⟩;obtain ⟨pp,r,sv,c,X⟩:=h1;obtain ⟨c0,c2⟩:=X.cells
   have ck:=X.kc hi1.out
   obtain ⟨b0,cp0,hsv⟩:=RowAt.form (X.ls i hi1.out)
   rw [hsv,← hq.out] at ck
   simp only [List.length_nil] at ck
   rw [← hn.out] at c2
   have n64:n≤64:=by have:=X.n64;have:=hn.out;omega
   replace X:=Hd X;replace h2:=Hd h2;clear hsv;go_wp2;go_returns
   exact ⟨rfl,X.out.at,h2.out⟩
  ·rw [if_neg h0]
   have hpos:0 < q.length:=List.length_pos_iff.2 h0
   obtain ⟨m,hm⟩:∃ m,m=q.length - 1:=⟨_,rfl⟩
   rw [← hm]
   obtain ⟨id,hid⟩:∃ id,id=q.getD m 0:=⟨_,rfl⟩
   rw [← hid]
   have hql:q.length=m+1:=by omega
   replace hql:=Hd hql;replace hid:=Hd hid
   obtain ⟨R,hR⟩:∃ R:Stash,R=⟨s1.pool,s1.kept.set i (q.take m)⟩:=⟨_,rfl⟩
   rw [← hR];replace hR:=Hd hR;clear h0 hm hpos
   go_enter func158,ntmps158
   go_wp2_with fail;refine A.out.mono ?_;rintro e w1 ⟨rfl,rfl⟩;go_wp2_with fail;refine B.out.mono ?_;rintro e w1 ⟨rfl,h1,h2⟩;obtain ⟨pp,r,sv,c,X⟩:=h1;obtain ⟨c0,c2⟩:=X.cells
   have ck:=X.kc hi1.out
   have dI:=X.ls i hi1.out
   rw [← hq.out] at dI
   obtain ⟨g,cap,hsv,hcap,-,hFg,hlg,hcell,-⟩:=dI.open (by rw [hql.out];omega)
   have hm0:=hcell m (by rw [hql.out];omega)
   rw [← hid.out] at hm0;rw [hsv] at ck dI;rw [hql.out] at ck hcap;rw [← hn.out] at c2
   have n64:n≤64:=by have:=X.n64;have:=hn.out;omega
   have hm4:m+1≤4:=by have:=X.few i hi1.out;rw [← hq.out,hql.out] at this;exact this
   have fk:w1.frozen? ⟨r,i,none⟩=false:=X.row.frozen _
   have hcut:=dI.cut (by rw [hql.out];omega) m (by rw [hql.out];omega)
   have Y:=X.set hi1.out (v:=.slice (some ⟨g,0,none⟩) m m) (l:=q.take m) (w':=w1) (hcut.mono (fun b hb=>.inl hb)) (Ch.refl _ _) (by rw [List.length_take];omega)
   rw [Plus.self] at Y
   have hsub:((m:Int)+1 - 1)=m:=by omega
   replace X:=Hd X;replace Y:=Hd Y;replace h2:=Hd h2;clear hsv hcell dI hcut;go_wp2
   go_region
   go_wp2;go_returns;rw [hR.out]
   refine ⟨rfl,(Y.out.ch (Ch.refl (fun _=>False) _).drew (fun _ _ h=>h)).at.mono (fun b hb=>hb.imp (fun e=>e) (fun e=>⟨e.1,by simpa using e.2⟩)) (fun b hb=>hb.elim (fun e=>by have:=hltw.out b e;have:=h2.out.size;simp;omega) (fun e=>e.2)),(h2.out.setCell (p:=⟨r,i,none⟩) (fun hb=>X.out.fr.1.elim (fun e=>e) (fun e=>by have:=e.1;have hb':r < w.heap.size:=hb;omega)) _).drew⟩
 ·have e:=may_no hm
  rw [if_pos hm];rw [e] at A;clear h hm e
  go_enter func158,ntmps158
  go_wp2_with fail;refine A.out.mono ?_;rintro e w1 ⟨rfl,rfl⟩;go_wp2;go_returns
  exact ⟨rfl,by rw [Plus.self];exact HT.out,Ch.refl _ _⟩
theorem iclone_off (w:World) {g cap:Nat} {l:List Int} (h:IntsAt w F (.slice (some ⟨g,0,none⟩) l.length cap) l) (hpos:0 < l.length) (m n c:Nat) (hm:m≤l.length) (hn:n=l.length - m) (hl8:l.length≤1000):Calls prog 252 #[.slice (some ⟨g,m,none⟩) n c] w fun e w'=>(∃ v',e=.returned v'∧IntsAt w' (New w) v' (l.drop m))∧Below w.heap.size w w':=by
 obtain ⟨g',cap',h0,-,-,-,-,hc,-⟩:=h.open hpos
 cases h0
 by_cases h1:m=l.length
 ·subst h1
  have hn0:n=0:=by omega
  subst hn0;rw [List.drop_length]
  exact (slices_Clone_int_zero ⟨g,l.length,none⟩ c w).mono fun e w' ⟨v',he,ho,_,hb⟩=>⟨⟨v',he,ints_of_owns (l:=[]) ho⟩,hb⟩
 ·have hlen:(l.drop m).length=n:=by rw [List.length_drop];omega
  have:=slices_Clone_int g m n c (l.drop m) w (by omega) (by omega) (fun j hj=>by
   rw [hc (m+j) (by omega)]
   congr 2
   rw [List.getD_eq_getElem?_getD,List.getD_eq_getElem?_getD,List.getElem?_drop])
  rw [List.take_of_length_le (by omega)] at this
  exact this.mono fun e w' ⟨v',he,ho,_,hb⟩=>⟨⟨v',he,ints_of_owns ho⟩,hb⟩
theorem iclone_tail (w:World) {g cap:Nat} {l:List Int} (h:IntsAt w F (.slice (some ⟨g,0,none⟩) l.length cap) l) (hpos:0 < l.length) (hcap:l.length≤cap) (m n c:Nat) (hm:m≤l.length) (hn:n=l.length - m) (hl8:l.length≤1000):Calls prog 252 #[.slice (if cap=m then some ⟨g,0,none⟩ else some ⟨g,m,none⟩) n c] w fun e w'=>(∃ v',e=.returned v'∧IntsAt w' (New w) v' (l.drop m))∧Below w.heap.size w w':=by
 split
 ·have h1:m=l.length:=by omega
  subst h1
  have hn0:n=0:=by omega
  subst hn0;rw [List.drop_length]
  exact (slices_Clone_int_zero ⟨g,0,none⟩ c w).mono fun e w' ⟨v',he,ho,_,hb⟩=>⟨⟨v',he,ints_of_owns (l:=[]) ho⟩,hb⟩
 ·exact iclone_off w h hpos m n c hm hn hl8
def giveAll (pool:List Int) (l:List Int):List Int:=l.foldl (fun p d=>(poolGive p d).1) pool
def stashBack (s:Stash) (i k:Nat):Stash:=⟨giveAll s.pool ((s.kept.getD i []).take k),s.kept.set i ((s.kept.getD i []).drop k)⟩
theorem giveAll_step (pool l:List Int) (k:Nat) (hk:k < l.length):giveAll pool (l.take (k+1))=(poolGive (giveAll pool (l.take k)) (l.getD k 0)).1:=by
 have hg:l[k]? = some (l.getD k 0):=getD_some hk
 unfold giveAll;rw [List.take_add_one,hg,List.foldl_append]
 rfl
theorem hback_any (w:World) {s:Stash} (h:StashAt w F p s) (i:Nat) (hi:i < s.kept.length) (m:Nat) (hm:m≤(s.kept.getD i []).length) (hpos:0 < (s.kept.getD i []).length):Calls prog 237 #[.pointer (some ⟨p,0,none⟩),.int .i64 i,.int .i64 m] w fun e w'=>e=.returned (.tuple #[])∧StashAt w' (Plus w w' F) p (stashBack s i m)∧Ch F w w':=by
 have hltw:=Hd h.ltF;obtain ⟨pp,r,sv,c,h⟩:=h;obtain ⟨c0,c2⟩:=h.cells
 have ck:=h.kc hi
 have dI:=h.ls i hi
 have hfew:=h.few i hi
 have n64:=h.n64;unfold stashBack
 obtain ⟨q,hq⟩:∃ q,q=s.kept.getD i []:=⟨_,rfl⟩
 rw [← hq] at dI hm hpos hfew ⊢
 obtain ⟨g,cap,hsv,hcap,hcm,hFg,hlg,hcell,-⟩:=dI.open hpos
 rw [hsv] at ck dI
 obtain ⟨n,hn⟩:∃ n,n=s.kept.length:=⟨_,rfl⟩
 rw [← hn] at c2 n64
 have hin:i < n:=by omega
 obtain ⟨L,hL⟩:∃ L,L=q.length:=⟨_,rfl⟩
 rw [← hL] at ck hcap hm hpos hfew
 have hcap9:cap≤9223372036854775807:=by unfold maxLen at hcm;omega
 replace hcell:=Hd hcell;replace hL:=Hd hL;have hX0:=Hd h;replace hn:=Hd hn;replace hi:=Hd hi
 obtain ⟨QD,hQD⟩:∃ QD,QD=q.drop m:=⟨_,rfl⟩
 obtain ⟨GA,hGA⟩:∃ GA,GA=giveAll s.pool (q.take m):=⟨_,rfl⟩
 rw [← hQD,← hGA];replace hQD:=Hd hQD;replace hGA:=Hd hGA
 have hQl:Hid (QD.length≤4):=Hd (by rw [hQD.out,List.length_drop,← hL.out];omega)
 have dI':=Hd dI;clear h hq hcm hFg dI
 go_enter func237,ntmps237
 go_wp2
 go_loopw [18,7] (fun iv _ wr=>∃ k:Nat,iv=.int .i64 k∧k≤m∧Hid (StashAtQ wr F p pp r sv c ⟨giveAll s.pool (q.take k),s.kept⟩)∧Hid (Ch (Col F c 0) w wr)∧Hid (wr.heap.size=w.heap.size)) (fun iv _ _=>m - (intOf iv).toNat)
 case atStart=>exact ⟨0,rfl,by omega,Hd hX0.out,Hd (Ch.refl _ _),Hd rfl⟩
 case round =>
  clear c0 c2 ck;obtain ⟨k,rfl,hk,H,HC,HS⟩:=hrel;obtain ⟨c0,c2⟩:=H.out.cells
  have ck:=H.out.kc hi.out
  rw [hsv] at ck;dsimp only at c2;rw [← hn.out] at c2;rw [← hL.out] at ck
  by_cases hlt:k < m
  ·have hk0:=hcell.out k (by rw [← hL.out];omega)
   have hk1:=keepch HC.out hk0 (fun e=>by have:=e.2;have:=(dI'.out.open (by rw [← hL.out];omega));obtain ⟨g',c',e2,-,-,e3,-⟩:=this;cases e2;have:=e3.2;omega)
   obtain ⟨d,hd⟩:∃ d,d=q.getD k 0:=⟨_,rfl⟩
   have A:=pgive_any wr H.out.pool d
   have hst:=giveAll_step s.pool q k (by rw [← hL.out];omega)
   rw [← hd] at hst hk1;dsimp only at A
   obtain ⟨u,hu⟩:∃ u,u=poolGive (giveAll s.pool (q.take k)) d:=⟨_,rfl⟩
   rw [← hu] at A hst;replace A:=Hd A;replace hst:=Hd hst;clear hd hu hk0;go_wp2_with fail;refine A.out.mono ?_;rintro e w2 ⟨rfl,h1,h2,h3⟩;have X2:=Hd (H.out.turnPool h1 h2);replace h2:=Hd h2;replace h3:=Hd h3;clear h1;go_wp2;go_roundw
   case rel=>exact ⟨k+1,by go_num,hlt,Hd (by rw [hst.out];exact X2.out),Hd (HC.out.trans h2.out),Hd (h3.out.trans HS.out)⟩
   case measure=>simp [intOf];omega
  ·have:k=m:=by omega
   subst this
   have hI2:=H.out.ls i hi.out
   have D:=fun c'=>iclone_tail wr.drew (g:=g) (cap:=cap) (l:=q) (F:=Col F c (10+i)) ((dI'.out.ch HC.out (Col.apart (by omega))).ch (Ch.off (Below.refl _ _).drew) (fun _ _ h=>h)) (by rw [← hL.out];exact hpos) (by rw [← hL.out];exact hcap) k (L - k) c' (by rw [← hL.out];exact hm) (by rw [← hL.out]) (by rw [← hL.out];omega)
   rw [← hQD.out] at D;have hX:=Hd H.out;rw [← hGA.out] at hX
   have fk:wr.frozen? ⟨r,i,none⟩=false:=H.out.row.frozen _
   have hpr:Hid (∀ w2:World,Below wr.heap.size wr w2→w2.cell? ⟨p,2,none⟩=some (.slice (some ⟨r,0,none⟩) n n)∧w2.cell? ⟨r,i,none⟩=some (.slice (some ⟨g,0,none⟩) L cap)∧w2.frozen? ⟨r,i,none⟩=false):=Hd (fun w2 hb=>⟨keepcell hb c2,keepcell hb ck,(H.out.row.ch (Ch.off hb) (fun h=>h)).frozen _⟩)
   have hfin:Hid (∀ (w2:World) (bv:Option Addr) (cv:Nat),IntsAt w2 (New wr.drew) (.slice bv QD.length cv) QD→Below wr.heap.size wr w2→StashAt (w2.setCell ⟨r,i,none⟩ (.slice bv QD.length cv)) (Plus w (w2.setCell ⟨r,i,none⟩ (.slice bv QD.length cv)) F) p ⟨GA,s.kept.set i QD⟩∧Ch F w (w2.setCell ⟨r,i,none⟩ (.slice bv QD.length cv))):=Hd (fun w2 bv cv h5 hb=>by
    have hlt2:∀ b,New wr.drew b→(.slice bv QD.length cv:Value)=.slice bv QD.length cv→True:=fun _ _ _=>trivial
    obtain ⟨h1,base,cap',h2,h3,h4,h5'⟩:=h5
    cases h2
    have h5'':IntsAt w2 (Plus wr w2 (Col F c (10+i))) (.slice bv QD.length cv) QD:=by
     refine ⟨h1,bv,cv,rfl,h3,h4,h5'.imp id ?_⟩
     rintro ⟨g',cs,e1,e2,e3,e4,e5⟩
     exact ⟨g',cs,e1,e2,e3,e4,.inr ⟨e5,e2.lt⟩⟩
    have Y:=hX.out.set hi.out h5'' (Ch.of_below hb) hQl.out
    have hs:=hb.size;have hss:=HS.out
    refine ⟨Y.at.mono (fun b hb'=>?_) (fun b hb'=>?_),?_⟩
    ·exact hb'.imp (fun e=>e) (fun e=>⟨by have:=e.1;omega,by rw [World.size_setCell];exact e.2⟩)
    ·exact hb'.elim (fun e=>by have:=hltw.out b e;rw [World.size_setCell];omega) (fun e=>e.2)
    ·exact ((HC.out.mono (fun _ _ e=>e.1)).trans (Ch.of_below hb)).setCell (p:=⟨r,i,none⟩) (fun _=>hX.out.fr.1) _)
   by_cases hck:cap=k
   ·have hLk:L=k:=by omega
    rw [if_pos hck] at D;have D1:=D 0;rw [hLk,Nat.sub_self] at D1;replace D1:=Hd D1;rw [hck,hLk] at ck hpr;clear D hck hLk hcap hcap9 hL hcell dI' hsv;go_wp2
    go_region_with (go_at_call 252;refine D1.out.mono ?_;rintro e w2 ⟨⟨v',rfl,h5⟩,hb⟩;obtain ⟨bv,cv,hv'⟩:=RowAt.form h5;subst hv';have hb2:=(Below.refl wr.heap.size wr).drew.trans hb;obtain ⟨e2,ek,ef⟩:=hpr.out w2 hb2)
    all_goals
     have hf:=Hd (hfin.out w2 bv cv h5 hb2);clear h5 hb hb2 e2 ek ef;go_wp2;go_end0
     exact ⟨rfl,hf.out⟩
   ·rw [if_neg hck] at D
    have D1:=D (cap - k)
    replace D1:=Hd D1
    have hcast:((L:Int) - k)=((L - k:Nat):Int):=by omega
    clear D hcell dI' hsv;go_wp2
    go_region_with (go_at_call 252;refine D1.out.mono ?_;rintro e w2 ⟨⟨v',rfl,h5⟩,hb⟩;obtain ⟨bv,cv,hv'⟩:=RowAt.form h5;subst hv';have hb2:=(Below.refl wr.heap.size wr).drew.trans hb;obtain ⟨e2,ek,ef⟩:=hpr.out w2 hb2)
    all_goals
     have hf:=Hd (hfin.out w2 bv cv h5 hb2);clear h5 hb hb2 e2 ek ef;go_wp2;go_end0
     exact ⟨rfl,hf.out⟩
theorem iclone_none (w:World) (v:Value) (hv:v=.slice none 0 0∨∃ a c,v=.slice (some a) 0 c):Calls prog 252 #[v] w fun e w'=>(∃ v',e=.returned v'∧IntsAt w' (New w) v' [])∧Below w.heap.size w w':=by
 rcases hv with rfl | ⟨a,c,rfl⟩
 ·exact (slices_Clone_int_nil 0 0 w).mono fun e w' ⟨he,hw⟩=>by subst hw;exact ⟨⟨_,he,IntsAt.nil _ _⟩,Below.refl _ _⟩
 ·exact (slices_Clone_int_zero a c w).mono fun e w' ⟨v',he,ho,_,hb⟩=>⟨⟨v',he,ints_of_owns (l:=[]) ho⟩,hb⟩
theorem form0 {v:Value} (h:IntsAt w F v []):v=.slice none 0 0∨(∃ a,v=.slice (some a) 0 0)∨∃ g c,v=.slice (some ⟨g,0,none⟩) 0 c∧c≤9223372036854775807:=by
 obtain ⟨h1,base,cap,h2,h3,h4,h5⟩:=h
 rcases h5 with ⟨h5,h6⟩ | ⟨g,cs,h5,-⟩
 ·subst h5
  cases base with
  | none=>exact .inl (h6 rfl)
  | some a=>exact .inr (.inl ⟨a,h2⟩)
 ·subst h5
  exact .inr (.inr ⟨g,cap,h2,by unfold maxLen at h4;omega⟩)
theorem hback0_any (w:World) {s:Stash} (h:StashAt w F p s) (i:Nat) (hi:i < s.kept.length) (h0:s.kept.getD i []=[]):Calls prog 237 #[.pointer (some ⟨p,0,none⟩),.int .i64 i,.int .i64 0] w fun e w'=>e=.returned (.tuple #[])∧StashAt w' (Plus w w' F) p (stashBack s i 0)∧Ch F w w':=by
 have hltw:=Hd h.ltF;obtain ⟨pp,r,sv,c,h⟩:=h;obtain ⟨c0,c2⟩:=h.cells
 have ck:=h.kc hi
 have dI:=h.ls i hi
 have n64:=h.n64;unfold stashBack;rw [h0] at dI ⊢
 have hfin:Hid (∀ (w2:World) (bv:Option Addr) (cv:Nat),IntsAt w2 (New w.drew) (.slice bv 0 cv) []→Below w.heap.size w w2→StashAt (w2.setCell ⟨r,i,none⟩ (.slice bv 0 cv)) (Plus w (w2.setCell ⟨r,i,none⟩ (.slice bv 0 cv)) F) p ⟨giveAll s.pool ([].take 0),s.kept.set i ([].drop 0)⟩∧Ch F w (w2.setCell ⟨r,i,none⟩ (.slice bv 0 cv))):=Hd (fun w2 bv cv h5 hb=>by
  obtain ⟨h1,base,cap',h2,h3,h4,h5'⟩:=h5
  cases h2
  have h5'':IntsAt w2 (Plus w w2 (Col F c (10+i))) (.slice bv 0 cv) []:=by
   refine ⟨h1,bv,cv,rfl,h3,h4,h5'.imp id ?_⟩
   rintro ⟨g',cs,e1,e2,e3,e4,e5⟩
   exact ⟨g',cs,e1,e2,e3,e4,.inr ⟨e5,e2.lt⟩⟩
  have Y:=h.set hi h5'' (Ch.of_below hb) (by simp)
  have hs:=hb.size
  refine ⟨Y.at.mono (fun b hb'=>?_) (fun b hb'=>?_),?_⟩
  ·exact hb'.imp (fun e=>e) (fun e=>⟨e.1,by rw [World.size_setCell];exact e.2⟩)
  ·exact hb'.elim (fun e=>by have:=hltw.out b e;rw [World.size_setCell];omega) (fun e=>e.2)
  ·exact (Ch.of_below hb).setCell (p:=⟨r,i,none⟩) (fun _=>h.fr.1) _)
 have hpr:Hid (∀ w2:World,Below w.heap.size w w2→w2.cell? ⟨p,2,none⟩=some (.slice (some ⟨r,0,none⟩) s.kept.length s.kept.length)∧w2.cell? ⟨r,i,none⟩=some (sv i)∧w2.frozen? ⟨r,i,none⟩=false):=Hd (fun w2 hb=>⟨keepcell hb c2,keepcell hb ck,(h.row.ch (Ch.off hb) (fun h=>h)).frozen _⟩)
 have D:=fun v hv=>Hd (iclone_none w.drew v hv)
 generalize s.kept.length=n at *
 rcases form0 dI with e | ⟨a,e⟩ | ⟨g,cap,e,hcap⟩
 ·rw [e] at ck hpr
  have D1:=D (.slice none 0 0) (.inl rfl)
  clear h dI e D h0
  go_enter func237,ntmps237
  go_wp2
  refine wp_loop_rounds 1 ?_
  rw [rounds_succ];go_wp2
  go_region_with (go_at_call 252;refine D1.out.mono ?_;rintro e w2 ⟨⟨v',rfl,h5⟩,hb⟩;obtain ⟨bv,cv,hv'⟩:=RowAt.form h5;simp only [List.length_nil] at hv';subst hv';have hb2:=(Below.refl w.heap.size w).drew.trans hb;obtain ⟨e2,ek,ef⟩:=hpr.out w2 hb2)
  all_goals
   have hf:=Hd (hfin.out w2 bv cv h5 hb2);clear h5 hb hb2 e2 ek ef;go_wp2;go_end0
   exact ⟨rfl,hf.out⟩
 ·rw [e] at ck hpr
  have D1:=D (.slice (some a) 0 0) (.inr ⟨_,_,rfl⟩)
  clear h dI e D h0
  go_enter func237,ntmps237
  go_wp2
  refine wp_loop_rounds 1 ?_
  rw [rounds_succ];go_wp2
  go_region_with (go_at_call 252;refine D1.out.mono ?_;rintro e w2 ⟨⟨v',rfl,h5⟩,hb⟩;obtain ⟨bv,cv,hv'⟩:=RowAt.form h5;simp only [List.length_nil] at hv';subst hv';have hb2:=(Below.refl w.heap.size w).drew.trans hb;obtain ⟨e2,ek,ef⟩:=hpr.out w2 hb2)
  all_goals
   have hf:=Hd (hfin.out w2 bv cv h5 hb2);clear h5 hb hb2 e2 ek ef;go_wp2;go_end0
   exact ⟨rfl,hf.out⟩
 ·rw [e] at ck hpr
  have D1:=D (.slice (some ⟨g,0,none⟩) 0 cap) (.inr ⟨_,_,rfl⟩)
  clear h dI e D h0
  go_enter func237,ntmps237
  go_wp2
  refine wp_loop_rounds 1 ?_
  rw [rounds_succ];go_wp2
  go_region_with (go_at_call 252;refine D1.out.mono ?_;rintro e w2 ⟨⟨v',rfl,h5⟩,hb⟩;obtain ⟨bv,cv,hv'⟩:=RowAt.form h5;simp only [List.length_nil] at hv';subst hv';have hb2:=(Below.refl w.heap.size w).drew.trans hb;obtain ⟨e2,ek,ef⟩:=hpr.out w2 hb2)
  all_goals
   have hf:=Hd (hfin.out w2 bv cv h5 hb2);clear h5 hb hb2 e2 ek ef;go_wp2;go_end0
   exact ⟨rfl,hf.out⟩
theorem hbackA_any (w:World) {s:Stash} (h:StashAt w F p s) (i:Nat) (hi:i < s.kept.length) (m:Nat) (hm:m≤(s.kept.getD i []).length):Calls prog 237 #[.pointer (some ⟨p,0,none⟩),.int .i64 i,.int .i64 m] w fun e w'=>e=.returned (.tuple #[])∧StashAt w' (Plus w w' F) p (stashBack s i m)∧Ch F w w':=by
 by_cases h0:s.kept.getD i []=[]
 ·have hm0:m=0:=by rw [h0] at hm;simpa using hm
  subst hm0
  exact hback0_any w h i hi h0
 ·exact hback_any w h i hi m hm (List.length_pos_iff.2 h0)
theorem stashBack_len (s:Stash) (i m:Nat):(stashBack s i m).kept.length=s.kept.length:=by simp [stashBack]
def stashPut (s:Stash) (i:Nat) (id:Int):Stash:=⟨s.pool,s.kept.set i (s.kept.getD i []++[id])⟩
def stashGive (s:Stash) (cpu id:Int):Stash × Int :=
 if mayF s.kept.length cpu≠0 then (s,3) else if stashHas s id then
  (stashPut (if 4≤(s.kept.getD cpu.toNat []).length then stashBack s cpu.toNat 2 else s) cpu.toNat id,0) else (s,4)
theorem StashAt.since {w w1 w2:World} {m:Stash} (hF:∀ b,F b→b < w.heap.size) (hs:w.heap.size≤w1.heap.size) (hc0:Ch F w w1) (h:StashAt w2 (Plus w1 w2 (Plus w w1 F)) p m) (hc:Ch (Plus w w1 F) w1 w2):StashAt w2 (Plus w w2 F) p m∧Ch F w w2 :=
 ⟨h.mono (Plus.two hs hc.size) (fun b hb'=>hb'.elim (fun e=>by have:=hF b e;have:=hc.size;omega) (fun e=>e.2)),hc0.then hc (fun b hb e=>e.elim (fun e=>e) (fun e=>by omega))⟩
theorem hgive_any (w:World) {s:Stash} (h:StashAt w F p s) (cpu id:Int):Calls prog 159 #[.pointer (some ⟨p,0,none⟩),.int .i64 cpu,.int .i64 id] w fun e w'=>e=.returned (.int .i64 (stashGive s cpu id).2)∧StashAt w' (Plus w w' F) p (stashGive s cpu id).1∧Ch F w w':=by
 have HT:=Hd h;have A:=Hd (hmay_any w h cpu);have B:=Hd (hhas_any w h id);have hltw:=Hd h.ltF;unfold stashGive
 by_cases hm:mayF s.kept.length cpu=0
 ·obtain ⟨i,rfl,hi⟩:=may_yes hm
  rw [hm] at A
  rw [if_neg (by simp [hm])]
  simp only [Int.toNat_natCast]
  cases hh:stashHas s id with
  | false =>
   rw [hh] at B;rw [if_neg (by simp)];clear h hm hi hh
   go_enter func159,ntmps159
   go_wp2_with fail;refine A.out.mono ?_;rintro e w1 ⟨rfl,rfl⟩;go_wp2_with fail;refine B.out.mono ?_;rintro e w1 ⟨rfl,hb⟩;replace hb:=Hd hb;go_wp2;go_returns
   exact ⟨rfl,(HT.out.below hb.out).mono Plus.sub (Plus.lt hltw.out hb.out.size),Ch.of_below hb.out⟩
  | true =>
   rw [hh] at B;rw [if_pos rfl]
   have hn64:s.kept.length≤64:=by obtain ⟨pp,r,sv,c,h⟩:=h;exact h.n64
   have hfew:(s.kept.getD i []).length≤4:=by obtain ⟨pp,r,sv,c,h⟩:=h;exact h.few i hi
   by_cases h4:4≤(s.kept.getD i []).length
   ·rw [if_pos h4]
    obtain ⟨s1,hs1⟩:∃ s1,s1=stashBack s i 2:=⟨_,rfl⟩
    rw [← hs1]
    obtain ⟨n,hn⟩:∃ n,n=s.kept.length:=⟨_,rfl⟩
    have hin:i < n:=by omega
    have hik:Hid (i < s1.kept.length):=Hd (by rw [hs1,stashBack_len];exact hi)
    have hlk:Hid (s1.kept.length=n):=Hd (by rw [hs1,stashBack_len,hn])
    obtain ⟨q,hq⟩:∃ q,q=s1.kept.getD i []:=⟨_,rfl⟩
    have hlen:Hid ((s1.kept.getD i []).length≤3):=Hd (by
     rw [hs1];unfold stashBack;rw [getD_set_same hi,List.length_drop]
     omega)
    have hR:Hid (stashPut s1 i id=⟨s1.pool,s1.kept.set i (q++[id])⟩):=Hd (by unfold stashPut;rw [hq])
    replace hq:=Hd hq;replace hn:=Hd hn;replace hi:=Hd hi;replace hs1:=Hd hs1
    have hl4:Hid (4≤(s.kept.getD i []).length∧(s.kept.getD i []).length≤4):=Hd ⟨h4,hfew⟩
    clear h hm hh h4 hfew hn64
    go_enter func159,ntmps159
    go_wp2_with fail;refine A.out.mono ?_;rintro e w1 ⟨rfl,rfl⟩;go_wp2_with fail;refine B.out.mono ?_;rintro e w1 ⟨rfl,hb⟩
    have HX:=HT.out.below hb
    have C:=hbackA_any w1 HX i hi.out 2 (by have:=hl4.out;omega)
    rw [← hs1.out] at C;replace C:=Hd C;obtain ⟨pp,r,sv,c,X⟩:=HX;obtain ⟨c0,c2⟩:=X.cells
    have ck:=X.kc hi.out
    obtain ⟨b0,cp0,hsv⟩:=RowAt.form (X.ls i hi.out)
    rw [hsv,show (s.kept.getD i []).length=4 by have:=hl4.out;omega] at ck
    rw [← hn.out] at c2;have hb':=Hd hb;clear X hsv hb;go_wp2_with fail;refine C.out.mono ?_;rintro e w2 ⟨rfl,h1,h2⟩
    replace h1:=h1.mono (G:=Plus w w2 F) (Plus.cover hb'.out.size) (fun b hb=>hb.elim (fun e=>by have:=hltw.out b e;have:=hb'.out.size;have:=h2.size;omega) (fun e=>e.2))
    replace h2:=(Ch.of_below hb'.out).trans h2
    clear c0 c2 ck
    have hq4:q.length≤3:=by have:=hlen.out;rw [hq.out];exact this
    obtain ⟨pp,r,sv,c,X1⟩:=h1
    have dI:=X1.ls i hik.out
    rw [← hq.out] at dI;obtain ⟨d0,d2⟩:=X1.cells
    have dk:=X1.kc hik.out
    obtain ⟨b1,cp1,hsv1⟩:=RowAt.form dI
    rw [hsv1] at dk dI;rw [hlk.out] at d2
    have n64:n≤64:=by have:=X1.n64;have:=hlk.out;omega
    have hql:q.length≤1099511627776:=by omega
    obtain ⟨Qx,hQx⟩:∃ Qx,Qx=q++[id]:=⟨_,rfl⟩
    have hQl:Hid (Qx.length≤4):=Hd (by rw [hQx,List.length_append];simp only [List.length_cons,List.length_nil];omega)
    rw [← hQx] at hR;replace hQx:=Hd hQx
    have dI2:=IntsAt.ch dI (((Ch.refl (fun _=>False) w2).alloc (.cells #[.int .i64 id] 3)).drew) (fun _ _ h=>h)
    have X3:=X1.ch (((Ch.refl (fun _=>False) w2).alloc (.cells #[.int .i64 id] 3)).drew) (fun _ _ h=>h)
    obtain ⟨e0,e2⟩:=X3.cells
    have ek:=X3.kc hik.out
    rw [hsv1] at ek
    try dsimp only at e2
    rw [hlk.out] at e2
    have e2':(w2.alloc (.cells #[.int .i64 id] 3)).cell? ⟨p,2,none⟩=some (.slice (some ⟨r,0,none⟩) n n):=e2
    have ek':(w2.alloc (.cells #[.int .i64 id] 3)).cell? ⟨r,i,none⟩=some (.slice b1 q.length cp1):=ek
    replace dI2:=Hd dI2;replace X3:=Hd X3;replace h2:=Hd h2;clear dI hsv1 X1 hq4;go_wp2
    go_region_law (refine step_app1 rfl _ _ rfl dI2.out rfl rfl (cell_at1 _ _ rfl) hql ?_;intro v' w3 h5 h6;rw [← hQx.out] at h5;have g2:=keepch h6 e2 (Col.apart (by omega) _ X3.out.fp);have gk:=keepch h6 ek (Col.apart (by omega) _ X3.out.fr);obtain ⟨bv,cv,hv'⟩:=RowAt.form h5;subst hv';have gf:=(X3.out.row.ch h6 (Col.apart (by omega) _ X3.out.fr)).frozen i)
    all_goals
     have Y:=X3.out.set hik.out h5 h6 hQl.out
     have hs6:=h6.size
     simp only [World.size_drew,World.size_alloc] at hs6
     have hcw:=h2.out.size
     have Z:=Y.at.mono (G:=Plus w (w3.setCell ⟨r,i,none⟩ (.slice bv Qx.length cv)) F) (fun b hb=>(hb.elim (fun e=>e.elim .inl (fun e=>.inr ⟨e.1,by have:=e.2;have:=hs6;show b < (w3.setCell _ _).heap.size;rw [World.size_setCell];omega⟩)) (fun e=>.inr ⟨by have h7:(w2.alloc (.cells #[.int .i64 id] 3)).drew.heap.size≤b:=e.1;rw [World.size_drew,World.size_alloc] at h7;omega,by show b < (w3.setCell _ _).heap.size;rw [World.size_setCell];exact e.2⟩):Plus w (w3.setCell ⟨r,i,none⟩ (.slice bv Qx.length cv)) F b)) (fun b hb=>hb.elim (fun e=>by have:=hltw.out b e;rw [World.size_setCell];omega) (fun e=>e.2))
     have HC2:=(((h2.out).alloc (.cells #[.int .i64 id] 3)).drew.then h6 (fun b hb e=>(e.1.elim (fun e=>e) (fun e=>by have:=e.1;omega):F b))).setCell (p:=⟨r,i,none⟩) (fun hb=>(X3.out.fr.1.elim (fun e=>e) (fun e=>by have:=e.1;have hb':r < w.heap.size:=hb;omega):F r)) (.slice bv Qx.length cv)
     replace Z:=Hd Z;replace HC2:=Hd HC2;clear Y h5 h6 hs6 g2 gk gf;go_wp2;go_returns
     exact ⟨rfl,by rw [hR.out];exact Z.out,HC2.out⟩
   ·rw [if_neg h4]
    obtain ⟨n,hn⟩:∃ n,n=s.kept.length:=⟨_,rfl⟩
    have hin:i < n:=by omega
    have hik:Hid (i < s.kept.length):=Hd hi
    have hlk:Hid (s.kept.length=n):=Hd hn.symm
    obtain ⟨q,hq⟩:∃ q,q=s.kept.getD i []:=⟨_,rfl⟩
    have hlen:Hid ((s.kept.getD i []).length≤3):=Hd (by omega)
    have hR:Hid (stashPut s i id=⟨s.pool,s.kept.set i (q++[id])⟩):=Hd (by unfold stashPut;rw [hq])
    have hql3:Hid (q.length≤3):=Hd (by rw [hq];omega)
    replace hq:=Hd hq;replace hn:=Hd hn;clear h hm hh h4 hfew hn64 hi
    go_enter func159,ntmps159
    go_wp2_with fail;refine A.out.mono ?_;rintro e w1 ⟨rfl,rfl⟩;go_wp2_with fail;refine B.out.mono ?_;rintro e w2 ⟨rfl,hb⟩
    have h1:=(HT.out.below hb).mono (G:=Plus w w2 F) Plus.sub (Plus.lt hltw.out hb.size)
    have h2:Ch F w w2:=Ch.of_below hb
    clear hb
    have hq4:q.length≤3:=by have:=hlen.out;rw [hq.out];exact this
    obtain ⟨pp,r,sv,c,X1⟩:=h1
    have dI:=X1.ls i hik.out
    rw [← hq.out] at dI;obtain ⟨d0,d2⟩:=X1.cells
    have dk:=X1.kc hik.out
    obtain ⟨b1,cp1,hsv1⟩:=RowAt.form dI
    rw [hsv1] at dk dI;rw [hlk.out] at d2
    have n64:n≤64:=by have:=X1.n64;have:=hlk.out;omega
    have hql:q.length≤1099511627776:=by omega
    obtain ⟨Qx,hQx⟩:∃ Qx,Qx=q++[id]:=⟨_,rfl⟩
    have hQl:Hid (Qx.length≤4):=Hd (by rw [hQx,List.length_append];simp only [List.length_cons,List.length_nil];omega)
    rw [← hQx] at hR;replace hQx:=Hd hQx
    have dI2:=IntsAt.ch dI (((Ch.refl (fun _=>False) w2).alloc (.cells #[.int .i64 id] 3)).drew) (fun _ _ h=>h)
    have X3:=X1.ch (((Ch.refl (fun _=>False) w2).alloc (.cells #[.int .i64 id] 3)).drew) (fun _ _ h=>h)
    obtain ⟨e0,e2⟩:=X3.cells
    have ek:=X3.kc hik.out
    rw [hsv1] at ek
    try dsimp only at e2
    rw [hlk.out] at e2
    have e2':(w2.alloc (.cells #[.int .i64 id] 3)).cell? ⟨p,2,none⟩=some (.slice (some ⟨r,0,none⟩) n n):=e2
    have ek':(w2.alloc (.cells #[.int .i64 id] 3)).cell? ⟨r,i,none⟩=some (.slice b1 q.length cp1):=ek
    replace dI2:=Hd dI2;replace X3:=Hd X3;replace h2:=Hd h2;clear dI hsv1 X1;go_wp2
    go_region_law (refine step_app1 rfl _ _ rfl dI2.out rfl rfl (cell_at1 _ _ rfl) hql ?_;intro v' w3 h5 h6;rw [← hQx.out] at h5;have g2:=keepch h6 e2 (Col.apart (by omega) _ X3.out.fp);have gk:=keepch h6 ek (Col.apart (by omega) _ X3.out.fr);obtain ⟨bv,cv,hv'⟩:=RowAt.form h5;subst hv';have gf:=(X3.out.row.ch h6 (Col.apart (by omega) _ X3.out.fr)).frozen i)
    all_goals
     have Y:=X3.out.set hik.out h5 h6 hQl.out
     have hs6:=h6.size
     simp only [World.size_drew,World.size_alloc] at hs6
     have hcw:=h2.out.size
     have Z:=Y.at.mono (G:=Plus w (w3.setCell ⟨r,i,none⟩ (.slice bv Qx.length cv)) F) (fun b hb=>(hb.elim (fun e=>e.elim .inl (fun e=>.inr ⟨e.1,by have:=e.2;have:=hs6;show b < (w3.setCell _ _).heap.size;rw [World.size_setCell];omega⟩)) (fun e=>.inr ⟨by have h7:(w2.alloc (.cells #[.int .i64 id] 3)).drew.heap.size≤b:=e.1;rw [World.size_drew,World.size_alloc] at h7;omega,by show b < (w3.setCell _ _).heap.size;rw [World.size_setCell];exact e.2⟩):Plus w (w3.setCell ⟨r,i,none⟩ (.slice bv Qx.length cv)) F b)) (fun b hb=>hb.elim (fun e=>by have:=hltw.out b e;rw [World.size_setCell];omega) (fun e=>e.2))
     have HC2:=(((h2.out).alloc (.cells #[.int .i64 id] 3)).drew.then h6 (fun b hb e=>(e.1.elim (fun e=>e) (fun e=>by have:=e.1;omega):F b))).setCell (p:=⟨r,i,none⟩) (fun hb=>(X3.out.fr.1.elim (fun e=>e) (fun e=>by have:=e.1;have hb':r < w.heap.size:=hb;omega):F r)) (.slice bv Qx.length cv)
     replace Z:=Hd Z;replace HC2:=Hd HC2;clear Y h5 h6 hs6 g2 gk gf;go_wp2;go_returns
     exact ⟨rfl,by rw [hR.out];exact Z.out,HC2.out⟩
 ·have e:=may_no hm
  rw [if_pos hm];rw [e] at A;clear h hm e
  go_enter func159,ntmps159
  go_wp2_with fail;refine A.out.mono ?_;rintro e w1 ⟨rfl,rfl⟩;go_wp2;go_returns
  exact ⟨rfl,by rw [Plus.self];exact HT.out,Ch.refl _ _⟩
def stashDrain (s:Stash) (cpu:Int):Stash × Int × Int:=if mayF s.kept.length cpu≠0 then (s,0,3) else (stashBack s cpu.toNat (s.kept.getD cpu.toNat []).length,((s.kept.getD cpu.toNat []).length:Nat),0)
theorem hdrain_any (w:World) {s:Stash} (h:StashAt w F p s) (cpu:Int):Calls prog 312 #[.pointer (some ⟨p,0,none⟩),.int .i64 cpu] w fun e w'=>e=.returned (.tuple #[.int .i64 (stashDrain s cpu).2.1,.int .i64 (stashDrain s cpu).2.2])∧StashAt w' (Plus w w' F) p (stashDrain s cpu).1∧Ch F w w':=by
 have HT:=Hd h;have A:=Hd (hmay_any w h cpu);unfold stashDrain
 by_cases hm:mayF s.kept.length cpu=0
 ·obtain ⟨i,rfl,hi⟩:=may_yes hm
  rw [hm] at A
  rw [if_neg (by simp [hm])]
  simp only [Int.toNat_natCast]
  have C:=Hd (hbackA_any w h i hi _ (Nat.le_refl _))
  obtain ⟨pp,r,sv,c,X⟩:=h;obtain ⟨c0,c2⟩:=X.cells
  have ck:=X.kc hi
  have n64:=X.n64
  obtain ⟨b0,cp0,hsv⟩:=RowAt.form (X.ls i hi)
  rw [hsv] at ck
  obtain ⟨S,hS⟩:∃ S,S=stashBack s i (s.kept.getD i []).length:=⟨_,rfl⟩
  rw [← hS] at C ⊢;generalize (s.kept.getD i []).length=m at *;generalize s.kept.length=n at *;clear X hsv hm hS
  go_enter func312,ntmps312
  go_wp2_with fail;refine A.out.mono ?_;rintro e w1 ⟨rfl,rfl⟩;go_wp2_with fail;refine C.out.mono ?_;rintro e w2 ⟨rfl,h1⟩;replace h1:=Hd h1;go_wp2;go_returns
  exact ⟨rfl,h1.out⟩
 ·have e:=may_no hm
  rw [if_pos hm];rw [e] at A;clear h hm e
  go_enter func312,ntmps312
  go_wp2_with fail;refine A.out.mono ?_;rintro e w1 ⟨rfl,rfl⟩;go_wp2;go_returns
  exact ⟨rfl,by rw [Plus.self];exact HT.out,Ch.refl _ _⟩
theorem sliceZero:(prog.info? 65).map (fun i=>(i.zero,i.size,i.bytes))=some (some (.slice none 0 0),1,24):=by kernel_rfl
def stash0 (cpus:Nat):Stash:=⟨List.replicate 12 0,List.replicate cpus []⟩
theorem hnew_any (w:World) (cpus:Nat) (h1:1≤cpus) (h64:cpus≤64):Calls prog 64 #[.int .i64 cpus,.int .i64 12] w fun e w'=>(∃ p,e=.returned (.tuple #[.pointer (some ⟨p,0,none⟩),.int .i64 0])∧StashAt w' (Plus w w' (fun _=>False)) p (stash0 cpus))∧Below w.heap.size w w':=by
 have hmk:=fun W=>make_any sliceZero underlying229 (by omega) cpus (by omega) W
 have A:=Hd (pool_new w)
 go_enter func64,ntmps64
 go_wp2_with fail;refine A.out.mono ?_;rintro e w1 ⟨⟨pp,rfl,hp⟩,hb⟩;replace hp:=Hd hp;replace hb:=Hd hb;go_wp2;go_returns;have hs:=hb.out.size;have hpl:=hp.out.head.lt
 have hmc:madeCells #[Value.slice none 0 0] cpus=((List.range cpus).map (fun _=>Value.slice none 0 0)).toArray:=by
  apply Array.ext_getElem?
  intro k
  by_cases hk:k < cpus
  ·simp [madeCells,hk,Value.cells,Nat.mod_one]
  ·rw [Array.getElem?_eq_none (by simp [madeCells];omega),Array.getElem?_eq_none (by simp;omega)]
 refine ⟨⟨w1.heap.size+1,rfl,pp,w1.heap.size,fun _=>.slice none 0 0,fun b=>if b=w1.heap.size then 1 else if b=w1.heap.size+1 then 3 else 0,?_⟩,(hb.out.alloc hs _).alloc (by simp;omega) _⟩
 have hc2:∀ o1 o2,Ch (fun _=>False) w1 ((w1.alloc o1).alloc o2):=fun o1 o2=>((Ch.refl _ _).alloc _).alloc _
 refine ⟨?_,(hp.out.ch (hc2 _ _) (fun _ _ h=>h)).mono (fun b hb'=>?_),?_,⟨.inr ⟨hs,by simp;omega⟩,by simp⟩,⟨.inr ⟨by omega,by simp⟩,by simp⟩,plus0_lt,fun i hi=>?_,by simpa [stash0] using h1,by simpa [stash0] using h64,fun i hi=>?_⟩
 ·have e:(stash0 cpus).kept.length=cpus:=by simp [stash0]
  rw [e]
  exact Blk.at _ _ (by simp)
 ·have:=plus0_lt b hb'
  refine ⟨.inr ⟨hb'.elim (fun e=>e.elim) (fun e=>e.1),by simp;omega⟩,?_⟩
  have h1:b≠w1.heap.size:=by omega
  have h2:b≠w1.heap.size+1:=by omega
  simp [h1,h2]
 ·have e:(stash0 cpus).kept.length=cpus:=by simp [stash0]
  rw [e,← hmc]
  exact (Blk.new _ _ _).alloc _
 ·have e:(stash0 cpus).kept.getD i []=[]:=by
   show (List.replicate cpus ([]:List Int)).getD i []=[]
   rw [List.getD_eq_getElem?_getD,List.getElem?_replicate]
   split <;> rfl
  rw [e]
  exact IntsAt.nil _ _
 ·have e:(stash0 cpus).kept.getD i []=[]:=by
   show (List.replicate cpus ([]:List Int)).getD i []=[]
   rw [List.getD_eq_getElem?_getD,List.getElem?_replicate]
   split <;> rfl
  rw [e]
  simp
end Go.Proofs.YtiocbpabbjgkhaaGreatDoor
