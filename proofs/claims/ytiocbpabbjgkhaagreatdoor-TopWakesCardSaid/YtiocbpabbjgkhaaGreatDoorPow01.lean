/- Part 1 of the proof: contracts and plain laws, each under the conditions that it names. -/
import Derived.Test.YtiocbpabbjgkhaaGreatDoorProg
import Derived.WalkKit
import Derived.Handy
import Derived.WalkLawsBesides
import Derived.WalkSpells
import Derived.Below
import Derived.BigQuiet
import Derived.Deep.QuietTactic
import Derived.Deep.RegionHeld3
import Derived.Deep.DeepCutAuto
import Derived.RegionTactic
import Derived.ChangeAlike
import Derived.OwnWalk
import Derived.Laws.OwnMore
import Derived.Laws.AppendOwnNone
import Derived.Lib.Hide
import Derived.Outline
import Derived.StillTailTactics
import Derived.MapKept
import Derived.Maps.OwnOps
import Derived.Maps.OwnSet
import Derived.Shelf.Small.Bits
import Derived.Shelf.Strconv.Itoa0
import Derived.Shelf.Bits.Mul64
import Derived.Shelf.Slices.Turned
import Derived.Ground.Names2Prog
import Derived.Shelf.Slices.Clone
import Derived.Shelf.Slices.SearchI
import Derived.Ground.SlgnProg
import Derived.Shelf.SlicesG.SearchI
import Derived.Shelf.SlicesE.Clone
import Derived.Shelf.Spec.TrailingZeros
import Derived.Ground.Names7Prog
import Derived.Shelf.SlicesE.IndexFunc
import Derived.Shelf.SlicesE.DeleteFunc
import Derived.Ground.SlgfProg
set_option maxRecDepth 100000
set_option maxHeartbeats 20000000
set_option linter.unusedVariables false
set_option linter.unusedSimpArgs false
namespace Go.Proofs.YtiocbpabbjgkhaaGreatDoor
open Go.RowKit Go.Proofs.Tryz
variable {w w' : World} {F : Nat → Prop} {p : Nat}
section
structure Ch (F:Nat→Prop) (w w':World):Prop where
 os:w'.os=w.os
 tape:w'.tape=w.tape
 output:w'.output=w.output
 size:w.heap.size≤w'.heap.size
 block:∀ k,k < w.heap.size→¬ F k→w'.heap[k]? = w.heap[k]?
theorem Hd {q:Prop} (h:q):Hid q:=h
theorem sA (l:List Value) (i:Nat) (v:Value):l.toArray.setIfInBounds i v=(l.set i v).toArray:=List.setIfInBounds_toArray ..
theorem sB (a b:Value) (l:List Value):(a::l).set 0 b=b::l:=rfl
theorem sC (a b:Value) (l:List Value) (n:Nat):(a::l).set (n+1) b=a::l.set n b:=rfl
theorem Ch.refl (F:Nat→Prop) (w:World):Ch F w w:=⟨rfl,rfl,rfl,Nat.le_refl _,fun _ _ _=>rfl⟩
theorem Ch.trans {a b c:World} (h:Ch F a b) (k:Ch F b c):Ch F a c :=
 ⟨k.os.trans h.os,k.tape.trans h.tape,k.output.trans h.output,Nat.le_trans h.size k.size,fun i hi hF=>(k.block i (Nat.lt_of_lt_of_le hi h.size) hF).trans (h.block i hi hF)⟩
theorem Ch.then {F G:Nat→Prop} {a b c:World} (h:Ch F a b) (k:Ch G b c) (hG:∀ i,i < a.heap.size→G i→F i):Ch F a c :=
 ⟨k.os.trans h.os,k.tape.trans h.tape,k.output.trans h.output,Nat.le_trans h.size k.size,fun i hi hF=>(k.block i (Nat.lt_of_lt_of_le hi h.size) (fun g=>hF (hG i hi g))).trans (h.block i hi hF)⟩
theorem Ch.mono {F G:Nat→Prop} {a b:World} (h:Ch F a b) (hF:∀ i,i < a.heap.size→F i→G i):Ch G a b :=
 ⟨h.os,h.tape,h.output,h.size,fun i hi hG=>h.block i hi (fun f=>hG (hF i hi f))⟩
theorem Ch.drew {a w:World} (h:Ch F a w):Ch F a w.drew:=⟨h.os,h.tape,h.output,h.size,h.block⟩
theorem Ch.drewN {a w:World} (h:Ch F a w) (n:Nat):Ch F a (w.drewN n):=⟨h.os,h.tape,h.output,h.size,h.block⟩
theorem Ch.alloc {a w:World} (h:Ch F a w) (o:Obj):Ch F a (w.alloc o) :=
 ⟨h.os,h.tape,h.output,by rw [World.size_alloc];exact Nat.le_succ_of_le h.size,fun k hk hF=>(Below.heap_alloc _ _ _ (Nat.lt_of_lt_of_le hk h.size)).trans (h.block k hk hF)⟩
theorem Ch.setCell {a w:World} (h:Ch F a w) {p:Addr} (hp:p.block < a.heap.size→F p.block) (u:Value):Ch F a (w.setCell p u) :=
 ⟨h.os,h.tape,h.output,by rw [World.size_setCell];exact h.size,fun k hk hF=>(Below.heap_setCell _ _ _ _ (fun e=>by subst e;exact hF (hp hk))).trans (h.block k hk hF)⟩
theorem Ch.of_below {a w:World} (h:Below a.heap.size a w):Ch F a w:=⟨h.os,h.tape,h.output,h.size,fun k hk _=>h.block k hk⟩
theorem Ch.below {a w:World} (h:Ch F a w) {B:Nat} (hB:B≤a.heap.size) (hF:∀ k,k < B→¬ F k):Below B a w:=⟨h.os,h.tape,h.output,h.size,fun k hk=>h.block k (Nat.lt_of_lt_of_le hk hB) (hF k hk)⟩
theorem Ch.cell (h:Ch F w w') {b o:Nat} (hb:b < w.heap.size) (hF:¬ F b):w'.cell? ⟨b,o,none⟩=w.cell? ⟨b,o,none⟩:=World.cell?_of_block (w:=w) (h.block b hb hF)
theorem Ch.frozen (h:Ch F w w') {b o:Nat} (hb:b < w.heap.size) (hF:¬ F b):w'.frozen? ⟨b,o,none⟩=w.frozen? ⟨b,o,none⟩:=World.frozen?_of_block (w:=w) (h.block b hb hF)
def Blk (w:World) (b:Nat) (cs:Array Value) (t:TypeId):Prop:=w.heap[b]? = some (.cells cs t (0,0))
theorem Blk.lt {b:Nat} {cs:Array Value} {t:TypeId} (h:Blk w b cs t):b < w.heap.size:=(Array.getElem?_eq_some_iff.1 h).1
theorem Blk.ch {b:Nat} {cs:Array Value} {t:TypeId} (h:Blk w b cs t) (hc:Ch F w w') (hF:¬ F b):Blk w' b cs t:=(hc.block b h.lt hF).trans h
theorem Blk.cell {b:Nat} {cs:Array Value} {t:TypeId} (h:Blk w b cs t) (o:Nat):w.cell? ⟨b,o,none⟩=cs[o]?:=by
 unfold Blk at h
 simp [World.cell?,h]
theorem Blk.frozen {b:Nat} {cs:Array Value} {t:TypeId} (h:Blk w b cs t) (o:Nat):w.frozen? ⟨b,o,none⟩=false:=by
 unfold Blk at h
 simp [World.frozen?,h]
theorem Blk.set {b:Nat} {cs:Array Value} {t:TypeId} (h:Blk w b cs t) (o:Nat) (v:Value):Blk (w.setCell ⟨b,o,none⟩ v) b (cs.setIfInBounds o v) t:=by
 have hb:=h.lt
 unfold Blk at *
 have e:w.heap[b]'hb=.cells cs t (0,0):=by rw [Array.getElem?_eq_getElem hb] at h;exact Option.some.inj h
 rw [Array.getElem?_eq_getElem (by simpa [World.setCell] using hb)]
 simp only [World.setCell,Array.getElem_modify_self]
 rw [e]
 rfl
theorem Blk.new (w:World) (cs:Array Value) (t:TypeId):Blk (w.alloc (.cells cs t)) w.heap.size cs t:=by
 unfold Blk World.alloc;dsimp only;rw [Array.getElem?_push,if_pos rfl]
theorem Blk.at {n:Nat} (cs:Array Value) (t:TypeId) (h:n=w.heap.size):Blk (w.alloc (.cells cs t)) n cs t:=h ▸ Blk.new w cs t
theorem cell_at {n:Nat} (cs:Array Value) (t:TypeId) (i:Nat) (h:n=w.heap.size):(w.alloc (.cells cs t)).cell? ⟨n,i,none⟩=cs[i]?:=h ▸ World.cell?_alloc_new w cs t i
theorem cell_at1 {n:Nat} (v:Value) (t:TypeId) (h:n=w.heap.size):(w.alloc (.cells #[v] t)).cell? ⟨n,0,none⟩=some v:=cell_at #[v] t 0 h
theorem Blk.alloc {b:Nat} {cs:Array Value} {t:TypeId} (h:Blk w b cs t) (o:Obj):Blk (w.alloc o) b cs t:=h.ch ((Ch.refl (fun _=>False) w).alloc o) (fun h=>h)
theorem Blk.far {b:Nat} {cs:Array Value} {t:TypeId} (h:Blk w b cs t) {p:Addr} (hp:p.block≠b) (v:Value):Blk (w.setCell p v) b cs t :=
 h.ch ((Ch.refl (fun k=>k=p.block) w).setCell (p:=p) (fun _=>rfl) v) (fun e=>hp e.symm)
theorem Blk.drew {b:Nat} {cs:Array Value} {t:TypeId} (h:Blk w b cs t):Blk w.drew b cs t:=h
theorem Blk.drewN {b:Nat} {cs:Array Value} {t:TypeId} (h:Blk w b cs t) (n:Nat):Blk (w.drewN n) b cs t:=h
theorem keepcell (hb:Below w.heap.size w w') {b o:Nat} {v:Value} (h:w.cell? ⟨b,o,none⟩=some v):w'.cell? ⟨b,o,none⟩=some v :=
 (hb.cell (World.block_lt_of_cell? w _ h)).trans h
theorem keepch (hc:Ch F w w') {b o:Nat} {v:Value} (h:w.cell? ⟨b,o,none⟩=some v) (hF:¬ F b):w'.cell? ⟨b,o,none⟩=some v :=
 (hc.cell (World.block_lt_of_cell? w _ h) hF).trans h
def Grew (w:World) (F F':Nat→Prop):Prop:=∀ b,F' b→F b∨w.heap.size≤b
theorem Grew.refl (w:World) (F:Nat→Prop):Grew w F F:=fun _ h=>.inl h
theorem Grew.trans {F G H:Nat→Prop} (h:Grew w F G) (k:Grew w' G H) (hs:w.heap.size≤w'.heap.size):Grew w F H:=fun b hb =>
 (k b hb).elim (h b) (fun e=>.inr (Nat.le_trans hs e))
theorem Grew.apart {F F' G:Nat→Prop} (h:Grew w F F') (hG:∀ b,G b→b < w.heap.size) (hd:∀ b,F b→¬ G b):∀ b,F' b→¬ G b:=fun b hb hg =>
 (h b hb).elim (fun e=>hd b e hg) (fun e=>by have:=hG b hg;omega)
theorem Ch.off (h:Below w.heap.size w w'):Ch (fun _=>False) w w':=Ch.of_below h
theorem Ch.isBelow (h:Ch (fun _=>False) w w'):Below w.heap.size w w':=h.below (Nat.le_refl _) (fun _ _ h=>h)
def Plus (w w':World) (F:Nat→Prop):Nat→Prop:=fun b=>F b∨(w.heap.size≤b∧b < w'.heap.size)
theorem Plus.sub:∀ b,F b→Plus w w' F b:=fun _ h=>.inl h
theorem Plus.lt (h:∀ b,F b→b < w.heap.size) (hs:w.heap.size≤w'.heap.size):∀ b,Plus w w' F b→b < w'.heap.size:=fun b hb=>hb.elim (fun e=>Nat.lt_of_lt_of_le (h b e) hs) (fun e=>e.2)
theorem Plus.self:Plus w w F=F:=by
 funext b;apply propext;unfold Plus;constructor
 ·rintro (h | ⟨h1,h2⟩);exact h;omega
 ·exact .inl
theorem Plus.plus {w w1 w2:World} (h1:w.heap.size≤w1.heap.size) (h2:w1.heap.size≤w2.heap.size):Plus w1 w2 (Plus w w1 F)=Plus w w2 F:=by
 funext b;apply propext;unfold Plus;constructor
 ·rintro ((h | ⟨a,c⟩) | ⟨a,c⟩);exact .inl h;exact .inr ⟨a,by omega⟩;exact .inr ⟨by omega,c⟩
 ·rintro (h | ⟨a,c⟩);exact .inl (.inl h)
  by_cases hb:b < w1.heap.size
  ·exact .inl (.inr ⟨a,hb⟩)
  ·exact .inr ⟨by omega,c⟩
theorem Plus.mono {F G:Nat→Prop} (h:∀ b,F b→G b):∀ b,Plus w w' F b→Plus w w' G b:=fun b hb=>hb.imp (h b) id
theorem Ch.plus {w w1 w2:World} (h:Ch F w w1) (k:Ch (Plus w w1 F) w1 w2):Ch F w w2:=h.then k (fun i hi hp=>hp.elim id (fun e=>by omega))
theorem Plus.of_size {w w1 w':World} (h:w1.heap.size=w.heap.size):Plus w1 w' F=Plus w w' F:=by unfold Plus;rw [h]
theorem Ch.put {b:Nat} {a w:World} (h:Ch (fun k=>k=b) a w) (o:Nat) (v:Value):Ch (fun k=>k=b) a (w.setCell ⟨b,o,none⟩ v):=h.setCell (p:=⟨b,o,none⟩) (fun _=>rfl) v
theorem Plus.of_size' {w w1 w':World} (h:w1.heap.size=w'.heap.size):Plus w w1 F=Plus w w' F:=by unfold Plus;rw [h]
theorem belowN (w:World) (n:Nat):Below w.heap.size w (w.drewN n):=(Ch.isBelow ((Ch.refl _ w).drewN n))
theorem Plus.drewN {n:Nat}:Plus w (w.drewN n) F=F:=Plus.self
theorem Plus.eq (h:w'.heap.size=w.heap.size):Plus w w' F=F:=by
 funext b;apply propext;unfold Plus;constructor
 ·rintro (h | ⟨h1,h2⟩);exact h;omega
 ·exact .inl
theorem Plus.drew:Plus w w.drew F=F:=Plus.eq rfl
open Go.MapKept
def mget {α:Type}:List (Int × α)→Int→Option α
 | [],_=>.none
 | x::t,k=>if x.1=k then some x.2 else mget t k
def mput {α:Type}:List (Int × α)→Int→α→List (Int × α)
 | [],k,v=>[(k,v)]
 | x::t,k,v=>if x.1=k then (k,v)::t else x::mput t k v
def mdel {α:Type}:List (Int × α)→Int→List (Int × α)
 | [],_=>[]
 | x::t,k=>if x.1=k then t else x::mdel t k
def mpos {α:Type}:List (Int × α)→Int→Nat
 | [],_=>0
 | x::t,k=>if x.1=k then 0 else mpos t k+1
def Ents (l:List MapEntry) (m:List (Int × Value)):Prop:=l.map (fun e=>(e.key,e.val))=m.map (fun x=>(Value.int .i64 x.1,x.2))
def MapAt (w:World) (b:Nat) (m:List (Int × Value)):Prop:=∃ es clock,w.heap[b]? = some (.map es clock)∧Stamped es clock∧Ents es.toList m
theorem MapAt.lt {b:Nat} {m:List (Int × Value)} (h:MapAt w b m):b < w.heap.size:=by obtain ⟨es,c,h,_⟩:=h;exact (Array.getElem?_eq_some_iff.1 h).1
theorem MapAt.ch {b:Nat} {m:List (Int × Value)} (h:MapAt w b m) (hc:Ch F w w') (hF:¬ F b):MapAt w' b m:=by
 have hl:=h.lt;obtain ⟨es,c,h,h2⟩:=h
 exact ⟨es,c,(hc.block b hl hF).trans h,h2⟩
theorem MapAt.drew {b:Nat} {m:List (Int × Value)} (h:MapAt w b m):MapAt w.drew b m:=h
theorem Ents.size {l:List MapEntry} {m:List (Int × Value)} (h:Ents l m):l.length=m.length:=by have:=congrArg List.length h;simpa using this
theorem Ents.keys {l:List MapEntry} {m:List (Int × Value)} (h:Ents l m):∀ x∈l,IsKey (.int .i64) x.key:=by
 intro x hx
 have:(x.key,x.val)∈l.map (fun e=>(e.key,e.val)):=List.mem_map.2 ⟨x,hx,rfl⟩
 rw [h] at this
 obtain ⟨y,_,hy⟩:=List.mem_map.1 this
 rw [← (Prod.mk.inj hy).1]
 exact rfl
theorem Ents.find {k:Int}:∀ {l:List MapEntry} {m:List (Int × Value)} (i:Nat),Ents l m→Instr.findNow (.int .i64) (.int .i64 k) l i=some ((mget m k).map fun v=>(i+mpos m k,v))
 | [],[],i,_=>rfl
 | [],x::m,i,h=>by simp [Ents] at h
 | e::l,[],i,h=>by simp [Ents] at h
 | e::l,x::m,i,h=>by
  simp only [Ents,List.map_cons,List.cons.injEq,Prod.mk.injEq] at h
  obtain ⟨⟨h1,h2⟩,h3⟩:=h
  have ih:=Ents.find (k:=k) (i+1) (show Ents l m from h3)
  by_cases hk:x.1=k
  ·simp [Instr.findNow,Instr.sameNow,h1,hk,mget,mpos,h2]
  ·have hk':(k == x.1)=false:=by simpa using fun e=>hk e.symm
   simp only [Instr.findNow,Instr.sameNow,h1,hk',mget,hk,mpos,ih,if_true,if_false]
   congr 1
   cases mget m k with
   | none=>rfl
   | some v=>simp;omega
theorem Ents.put {k:Int} {v:Value}:∀ {l:List MapEntry} {m:List (Int × Value)},Ents l m→(mget m k).isSome=true→Ents (l.modify (mpos m k) (fun e=>{ e with key:=.int .i64 k,val:=v })) (mput m k v)
 | [],[],_,h=>by simp [mget] at h
 | [],x::m,h,_=>by simp [Ents] at h
 | e::l,[],h,_=>by simp [Ents] at h
 | e::l,x::m,h,hs=>by
  simp only [Ents,List.map_cons,List.cons.injEq,Prod.mk.injEq] at h
  obtain ⟨⟨h1,h2⟩,h3⟩:=h
  by_cases hk:x.1=k
  ·simp [Ents,mpos,mput,hk,h3]
  ·have ih:=Ents.put (v:=v) (show Ents l m from h3) (by simpa [mget,hk] using hs)
   simp only [Ents] at ih
   simp [Ents,mpos,mput,hk,h1,h2,ih]
theorem mput_new {α:Type} {k:Int} {v:α}:∀ {m:List (Int × α)},mget m k=.none→mput m k v=m++[(k,v)]
 | [],_=>rfl
 | x::m,h=>by
  by_cases hk:x.1=k
  ·simp [mget,hk] at h
  ·simp [mput,hk,mput_new (m:=m) (by simpa [mget,hk] using h)]
theorem Ents.push {k:Int} {v:Value} {c:Nat} {l:List MapEntry} {m:List (Int × Value)} (h:Ents l m) (hs:mget m k=.none):Ents (l++[{ key:=.int .i64 k,val:=v,born:=c }]) (mput m k v):=by
 rw [mput_new hs]
 simp only [Ents] at h
 simp [Ents,h]
theorem Ents.del {k:Int}:∀ {l:List MapEntry} {m:List (Int × Value)},Ents l m→(mget m k).isSome=true→Ents (l.eraseIdx (mpos m k)) (mdel m k)
 | [],[],_,h=>by simp [mget] at h
 | [],x::m,h,_=>by simp [Ents] at h
 | e::l,[],h,_=>by simp [Ents] at h
 | e::l,x::m,h,hs=>by
  simp only [Ents,List.map_cons,List.cons.injEq,Prod.mk.injEq] at h
  obtain ⟨⟨h1,h2⟩,h3⟩:=h
  by_cases hk:x.1=k
  ·simp [Ents,mpos,mdel,hk,h3]
  ·have ih:=Ents.del (show Ents l m from h3) (by simpa [mget,hk] using hs)
   simp only [Ents] at ih
   simp [Ents,mpos,mdel,hk,h1,h2,ih]
theorem mdel_none {α:Type} {k:Int}:∀ {m:List (Int × α)},mget m k=.none→mdel m k=m
 | [],_=>rfl
 | x::m,h=>by
  by_cases hk:x.1=k
  ·simp [mget,hk] at h
  ·simp [mdel,hk,mdel_none (m:=m) (by simpa [mget,hk] using h)]
theorem mpos_get {k:Int}:∀ {l:List MapEntry} {m:List (Int × Value)} {v:Value},Ents l m→mget m k=some v→∃ e,l[mpos m k]? = some e∧e.key=.int .i64 k∧e.val=v
 | [],[],v,_,h=>by simp [mget] at h
 | [],x::m,v,h,_=>by simp [Ents] at h
 | e::l,[],v,h,_=>by simp [Ents] at h
 | e::l,x::m,v,h,hs=>by
  simp only [Ents,List.map_cons,List.cons.injEq,Prod.mk.injEq] at h
  obtain ⟨⟨h1,h2⟩,h3⟩:=h
  by_cases hk:x.1=k
  ·exact ⟨e,by simp [mpos,hk],by rw [h1,hk],by rw [h2];simpa [mget,hk] using hs⟩
  ·obtain ⟨e',a,b,c⟩:=mpos_get (show Ents l m from h3) (by simpa [mget,hk] using hs)
   exact ⟨e',by simp [mpos,hk,a],b,c⟩
def mapPut (w:World) (b:Nat) (k:Int) (v:Value):World :=
 match w.heap[b]? with
 | some (.map es clock)=>match Instr.findNow (.int .i64) (.int .i64 k) es.toList 0 with
  | some (some (i,_))=>{ w with heap:=w.heap.setIfInBounds b (.map (es.modify i fun e=>{ e with key:=.int .i64 k,val:=v }) clock) }
  | _=>{ w with heap:=w.heap.setIfInBounds b (.map (es.push { key:=.int .i64 k,val:=v,born:=clock }) (clock+1)) }
 | _=>w
def mapDel (w:World) (b:Nat) (k:Int):World :=
 match w.heap[b]? with
 | some (.map es clock)=>match Instr.findNow (.int .i64) (.int .i64 k) es.toList 0 with
  | some (some (i,_))=>{ w with heap:=w.heap.setIfInBounds b (.map (es.eraseIdxIfInBounds i) clock) }
  | _=>{ w with heap:=w.heap.setIfInBounds b (.map es clock) }
 | _=>w
theorem ch_set {b:Nat} (o:Obj):Ch (fun k=>k=b) w { w with heap:=w.heap.setIfInBounds b o } :=
 ⟨rfl,rfl,rfl,by simp,fun k hk hF=>by simp [Ne.symm hF]⟩
theorem mapPut_ch (w:World) (b:Nat) (k:Int) (v:Value):Ch (fun j=>j=b) w (mapPut w b k v):=by
 unfold mapPut
 split
 ·split <;> exact ch_set _
 ·exact Ch.refl _ _
theorem mapDel_ch (w:World) (b:Nat) (k:Int):Ch (fun j=>j=b) w (mapDel w b k):=by
 unfold mapDel
 split
 ·split <;> exact ch_set _
 ·exact Ch.refl _ _
@[simp] theorem mapPut_size (w:World) (b:Nat) (k:Int) (v:Value):(mapPut w b k v).heap.size=w.heap.size:=by
 unfold mapPut;split
 ·split <;> simp
 ·rfl
@[simp] theorem mapDel_size (w:World) (b:Nat) (k:Int):(mapDel w b k).heap.size=w.heap.size:=by
 unfold mapDel;split
 ·split <;> simp
 ·rfl
theorem cell_set_map {b:Nat} {es:Array MapEntry} {c:Nat} (hb:w.heap[b]? = some (.map es c)) (es':Array MapEntry) (c':Nat) (a:Addr):({ w with heap:=w.heap.setIfInBounds b (.map es' c') }:World).cell? a=w.cell? a:=by
 have hlt:b < w.heap.size:=(Array.getElem?_eq_some_iff.1 hb).1
 unfold World.cell?
 by_cases e:a.block=b
 ·subst e;simp only [Array.getElem?_setIfInBounds,hb,hlt,if_true]
 ·simp [Ne.symm e]
theorem frozen_set_map {b:Nat} {es:Array MapEntry} {c:Nat} (hb:w.heap[b]? = some (.map es c)) (es':Array MapEntry) (c':Nat) (a:Addr):({ w with heap:=w.heap.setIfInBounds b (.map es' c') }:World).frozen? a=w.frozen? a:=by
 have hlt:b < w.heap.size:=(Array.getElem?_eq_some_iff.1 hb).1
 unfold World.frozen?
 by_cases e:a.block=b
 ·subst e;simp only [Array.getElem?_setIfInBounds,hb,hlt,if_true]
 ·simp [Ne.symm e]
@[simp] theorem mapPut_cell (w:World) (b:Nat) (k:Int) (v:Value) (a:Addr):(mapPut w b k v).cell? a=w.cell? a:=by
 unfold mapPut;split
 ·rename_i h;split <;> exact cell_set_map h _ _ a
 ·rfl
@[simp] theorem mapDel_cell (w:World) (b:Nat) (k:Int) (a:Addr):(mapDel w b k).cell? a=w.cell? a:=by
 unfold mapDel;split
 ·rename_i h;split <;> exact cell_set_map h _ _ a
 ·rfl
@[simp] theorem mapPut_frozen (w:World) (b:Nat) (k:Int) (v:Value) (a:Addr):(mapPut w b k v).frozen? a=w.frozen? a:=by
 unfold mapPut;split
 ·rename_i h;split <;> exact frozen_set_map h _ _ a
 ·rfl
@[simp] theorem mapDel_frozen (w:World) (b:Nat) (k:Int) (a:Addr):(mapDel w b k).frozen? a=w.frozen? a:=by
 unfold mapDel;split
 ·rename_i h;split <;> exact frozen_set_map h _ _ a
 ·rfl
theorem MapAt.put {b:Nat} {m:List (Int × Value)} (h:MapAt w b m) (k:Int) (v:Value):MapAt (mapPut w b k v) b (mput m k v):=by
 obtain ⟨es,c,hb,hs,he⟩:=h;unfold mapPut
 have hf:=he.find (k:=k) 0
 cases hg:mget m k with
 | none =>
  rw [hg] at hf
  simp only [hb,hf,Option.map_none]
  refine ⟨_,_,(heap_set hb).1,stamped_push hs ?_,by simpa using he.push hg⟩
  intro x hx e
  rcases findNow_spec (d:=.int .i64) (k:=.int .i64 k) rfl es.toList 0 he.keys with ⟨_,h2⟩ | ⟨j,e',h1,_⟩
  ·exact h2 x hx e
  ·rw [hf] at h1;cases h1
 | some u =>
  rw [hg] at hf
  simp only [hb,hf,Option.map_some]
  obtain ⟨e0,p1,p2,p3⟩:=mpos_get he hg
  refine ⟨_,_,(heap_set hb).1,stamped_modify hs _ _ (fun _ _=>rfl) ?_,?_⟩
  ·intro e _ he'
   have:es[mpos m k]? = some e0:=by simpa using p1
   rw [Nat.zero_add,this] at he'
   cases he'
   exact p2.symm
  ·rw [Nat.zero_add,Array.toList_modify]
   exact he.put (by simp [hg])
theorem MapAt.del {b:Nat} {m:List (Int × Value)} (h:MapAt w b m) (k:Int):MapAt (mapDel w b k) b (mdel m k):=by
 obtain ⟨es,c,hb,hs,he⟩:=h;unfold mapDel
 have hf:=he.find (k:=k) 0
 cases hg:mget m k with
 | none =>
  rw [hg] at hf
  simp only [hb,hf,Option.map_none]
  refine ⟨_,_,(heap_set hb).1,hs,?_⟩
  rw [mdel_none hg];exact he
 | some u =>
  rw [hg] at hf
  simp only [hb,hf,Option.map_some]
  refine ⟨_,_,(heap_set hb).1,stamped_erase hs _,?_⟩
  have:=he.del (k:=k) (by simp [hg])
  rw [Nat.zero_add];unfold Array.eraseIdxIfInBounds
  split
  ·simpa using this
  ·rename_i hn
   rw [List.eraseIdx_of_length_le (by simpa using hn)] at this
   exact this
theorem MapAt.new (w:World):MapAt (w.alloc (.map #[] 0)) w.heap.size []:=⟨#[],0,heap_alloc_new w _,stamped_empty _,rfl⟩
theorem Ch.mapPut {a w:World} (h:Ch F a w) {b:Nat} (hb:b < a.heap.size→F b) (k:Int) (v:Value):Ch F a (mapPut w b k v):=h.then (mapPut_ch w b k v) (fun i hi e=>by subst e;exact hb hi)
theorem Ch.mapDel {a w:World} (h:Ch F a w) {b:Nat} (hb:b < a.heap.size→F b) (k:Int):Ch F a (mapDel w b k):=h.then (mapDel_ch w b k) (fun i hi e=>by subst e;exact hb hi)
section
variable {P : Program} {w : World} {b : Nat} {m : List (Int × Value)} {T K E : TypeId}
theorem run_put (h:MapAt w b m) (hT:P.underlying T=some (.map K E)) (hK:P.underlying K=some (.int .i64)) (k:Int) (v:Value) :
  (Instr.mapUpdate T (.map (some b)) (.int .i64 k) v).run P w=.ok () (mapPut w b k v):=by
 obtain ⟨es,c,hb,hs,he⟩:=h
 have hgo:=MapKept.run_getObj_map (P:=P) hb
 have hso:=fun o=>run_setObj_map (P:=P) o hb
 have hf:=he.find (k:=k) 0
 have hck:=run_checkKey (P:=P) (w:=w) (k:=.int .i64 k) hK rfl false 9999
 have hfk:=run_findKey (P:=P) (w:=w) hK hf
 unfold mapPut
 cases hg:mget m k with
 | none =>
  rw [hg] at hf hfk
  simp only [Option.map_none] at hf hfk
  simp only [hb,hf]
  simp [Instr.mapUpdate,run_underlying hT,Result.andThen,hgo,hck,hfk,hso]
 | some u =>
  rw [hg] at hf hfk
  obtain ⟨e0,p1,p2,p3⟩:=mpos_get he hg
  have p1':es[mpos m k]? = some e0:=by simpa using p1
  simp only [Option.map_some,Nat.zero_add] at hf hfk
  simp only [hb,hf]
  have hkey:((es[mpos m k]?).map (·.key)).getD (.int .i64 k)=.int .i64 k:=by rw [p1'];exact p2
  have hstay:(Instr.keyThatStays (.int .i64 k) (.int .i64 k)).run P w=.ok (.int .i64 k) w:=by simp [Instr.keyThatStays,Instr.sameBits]
  simp only [Instr.mapUpdate,Sem.run_bind,run_underlying hT,Result.andThen,hgo,hck,hfk,hkey,hstay,hso]
theorem run_del (h:MapAt w b m) (hT:P.underlying T=some (.map K E)) (hK:P.underlying K=some (.int .i64)) (k:Int) (ty:TypeId) (K':TypeId) :
  (Builtin.delete_ #[T,K'] ty #[.map (some b),.int .i64 k]).run P w=.ok (.tuple #[]) (mapDel w b k):=by
 obtain ⟨es,c,hb,hs,he⟩:=h
 have hgo:=MapKept.run_getObj_map (P:=P) hb
 have hso:=fun o=>run_setObj_map (P:=P) o hb
 have hf:=he.find (k:=k) 0
 have hck:=run_checkKey (P:=P) (w:=w) (k:=.int .i64 k) hK rfl es.isEmpty 9999
 have hfk:=run_findKey (P:=P) (w:=w) hK hf
 unfold mapDel
 cases hg:mget m k with
 | none =>
  rw [hg] at hf hfk
  simp only [Option.map_none] at hf hfk
  simp only [hb,hf]
  simp only [Builtin.delete_,List.getElem?_toArray,List.getElem?_cons_zero,List.getElem?_cons_succ,Sem.run_bind,run_underlying hT,Result.andThen,hgo,hck,hfk,hso,Sem.run_pure]
 | some u =>
  rw [hg] at hf hfk
  simp only [Option.map_some,Nat.zero_add] at hf hfk
  simp only [hb,hf]
  simp only [Builtin.delete_,List.getElem?_toArray,List.getElem?_cons_zero,List.getElem?_cons_succ,Sem.run_bind,run_underlying hT,Result.andThen,hgo,hck,hfk,hso,Sem.run_pure]
theorem run_look (h:MapAt w b m) (hT:P.underlying T=some (.map K E)) (hK:P.underlying K=some (.int .i64)) (z:Value) (hz:(zeroValue E).run P w=.ok z w) (k:Int) (ok:Bool) :
  (Instr.lookup T (.map (some b)) (.int .i64 k) ok).run P w=.ok (if ok then .tuple #[(mget m k).getD z,.bool (mget m k).isSome] else (mget m k).getD z) w:=by
 obtain ⟨es,c,hb,hs,he⟩:=h
 have hgo:=MapKept.run_getObj_map (P:=P) hb
 have hso:=fun o=>run_setObj_map (P:=P) o hb
 have hf:=he.find (k:=k) 0
 have hck:=run_checkKey (P:=P) (w:=w) (k:=.int .i64 k) hK rfl es.isEmpty 9999
 have hfk:=run_findKey (P:=P) (w:=w) hK hf
 cases hg:mget m k with
 | none =>
  rw [hg] at hf hfk
  simp only [Option.map_none] at hfk
  cases ok <;> simp [Instr.lookup,run_underlying hT,Result.andThen,hgo,hck,hfk,hz]
 | some u =>
  rw [hg] at hf hfk
  simp only [Option.map_some,Nat.zero_add] at hfk
  cases ok <;> simp [Instr.lookup,run_underlying hT,Result.andThen,hgo,hck,hfk]
theorem run_mlen (h:MapAt w b m) (hT:P.underlying T=some (.map K E)) (ty:TypeId) :
  (Builtin.len_ #[T] ty #[.map (some b)]).run P w=.ok (.int .i64 (m.length:Int)) w:=by
 obtain ⟨es,c,hb,hs,he⟩:=h
 have hgo:=MapKept.run_getObj_map (P:=P) hb
 have hl:es.size=m.length:=by have:=he.size;simpa using this
 simp only [Builtin.len_,List.getElem?_toArray,List.getElem?_cons_zero,Sem.run_bind,run_underlying hT,Result.andThen,hgo,Sem.run_pure,goInt,hl]
end
end
section
def RowAt (w:World) (F:Nat→Prop) (E:TypeId) (sz:Nat) (v:Value) (n:Nat) (xs:List Value):Prop :=
 xs.length=n*sz∧∃ base cap,v=.slice base n cap∧n≤cap∧cap≤maxLen∧((cap=0∧(base=none→v=.slice none 0 0))∨∃ g cs,base=some ⟨g,0,none⟩∧Blk w g cs E∧cap*sz≤cs.size∧cs.toList.take (n*sz)=xs∧F g)
theorem RowAt.nil (w:World) (F:Nat→Prop) (E:TypeId) (sz:Nat):RowAt w F E sz (.slice none 0 0) 0 []:=⟨by simp,none,0,rfl,Nat.le_refl _,Nat.zero_le _,.inl ⟨rfl,fun _=>rfl⟩⟩
theorem RowAt.ch {F G:Nat→Prop} {E:TypeId} {sz:Nat} {v:Value} {n:Nat} {xs:List Value} (h:RowAt w F E sz v n xs) (hc:Ch G w w') (hd:∀ b,F b→¬ G b):RowAt w' F E sz v n xs:=by
 obtain ⟨h1,base,cap,h2,h3,h4,h5⟩:=h
 refine ⟨h1,base,cap,h2,h3,h4,h5.imp id ?_⟩
 rintro ⟨g,cs,a,b,c,d,e⟩
 exact ⟨g,cs,a,b.ch hc (hd g e),c,d,e⟩
theorem RowAt.mono {F G:Nat→Prop} {E:TypeId} {sz:Nat} {v:Value} {n:Nat} {xs:List Value} (h:RowAt w F E sz v n xs) (hd:∀ b,F b→G b):RowAt w G E sz v n xs:=by
 obtain ⟨h1,base,cap,h2,h3,h4,h5⟩:=h
 refine ⟨h1,base,cap,h2,h3,h4,h5.imp id ?_⟩
 rintro ⟨g,cs,a,b,c,d,e⟩
 exact ⟨g,cs,a,b,c,d,hd g e⟩
theorem RowAt.len {E:TypeId} {sz:Nat} {v:Value} {n:Nat} {xs:List Value} (h:RowAt w F E sz v n xs):n≤maxLen:=by
 obtain ⟨h1,base,cap,h2,h3,h4,h5⟩:=h
 omega
theorem take_get {α:Type} {l:List α} {m j:Nat} {xs:List α} {u:α} (h:l.take m=xs) (hj:xs[j]? = some u):l[j]? = some u:=by
 subst h;rw [List.getElem?_take] at hj
 split at hj
 ·exact hj
 ·cases hj
theorem RowAt.open {E:TypeId} {sz:Nat} {v:Value} {n:Nat} {xs:List Value} (h:RowAt w F E sz v n xs) (hn:0 < n):∃ g cap,v=.slice (some ⟨g,0,none⟩) n cap∧n≤cap∧cap≤maxLen∧F g∧g < w.heap.size∧(∀ j u,xs[j]? = some u→w.cell? ⟨g,j,none⟩=some u)∧(∀ j,w.frozen? ⟨g,j,none⟩=false):=by
 obtain ⟨h1,base,cap,h2,h3,h4,h5⟩:=h
 rcases h5 with ⟨h5,_⟩ | ⟨g,cs,rfl,b,c,d,e⟩
 ·omega
 ·refine ⟨g,cap,h2,h3,h4,e,b.lt,fun j u hj=>?_,b.frozen⟩
  rw [b.cell j]
  have:=take_get d hj
  simpa using this
theorem RowAt.form {E:TypeId} {sz:Nat} {v:Value} {n:Nat} {xs:List Value} (h:RowAt w F E sz v n xs):∃ base cap,v=.slice base n cap:=by
 obtain ⟨h1,base,cap,h2,h3,h4,h5⟩:=h
 exact ⟨base,cap,h2⟩
theorem RowAt.of_blk {E:TypeId} {sz g n cap:Nat} {cs:Array Value} {xs:List Value} (h:Blk w g cs E) (hF:F g) (hx:xs.length=n*sz) (hc:n≤cap) (hm:cap≤maxLen) (hs:cap*sz≤cs.size) (ht:cs.toList.take (n*sz)=xs):RowAt w F E sz (.slice (some ⟨g,0,none⟩) n cap) n xs :=
 ⟨hx,_,cap,rfl,hc,hm,.inr ⟨g,cs,rfl,h,hs,ht,hF⟩⟩
theorem ch_row (w:World) (g:Nat) (new:Array Value):Ch (fun b=>b=g) w (w.setRow g new):=by
 refine ⟨rfl,rfl,rfl,by simp [World.setRow],fun k hk hF=>?_⟩
 simp only [World.setRow]
 rw [Array.getElem?_modify,if_neg (fun e=>hF e.symm)]
section
variable {P : Program}
theorem run_app {E t ty:TypeId} {sz by':Nat} {i:TypeInfo} {z:Value} (ht:P.underlying t=some (.slice E)) (hi:P.info? E=some i) (hz:i.zero=some z) (hsz:i.size=sz) (hby:i.bytes=by') (hzs:z.cells.size=sz) (h0:0 < sz)
  {v:Value} {n:Nat} {xs:List Value} (h:RowAt w F E sz v n xs) {a:Addr} {m c:Nat} {news:List Value} (hl:news.length=m*sz) (hnews:∀ j u,news[j]? = some u→w.cell? (a.add j)=some u) (h1:∀ u∈news,u.oneCell'=true) (hm:0 < m) (h63:n+m≤maxLen) (hbytes:(n+m)*by'≤140737488355328) :
  ∃ v' w',(Builtin.append_ #[t,t] ty #[v,.slice (some a) m c]).run P w=.ok v' w'∧RowAt w' (Plus w w' F) E sz v' (n+m) (xs++news)∧Ch F w w':=by
 subst hsz;subst hby;obtain ⟨hx,base,cap,rfl,hnc,hcm,h5⟩:=h
 have hlen:(xs++news).length=(n+m)*i.size:=by rw [List.length_append,hx,hl,Nat.add_mul]
 have hsmall:n+m≤9223372036854775807:=by simp only [maxLen] at h63;omega
 have grown:∀ (old:Nat),
   RowAt (w.drew.alloc (.cells (xs.toArray++news.toArray++Builtin.zeroCells z.cells (grownCap w (n+m) old E - (n+m))) E)) (Plus w (w.drew.alloc (.cells (xs.toArray++news.toArray++Builtin.zeroCells z.cells (grownCap w (n+m) old E - (n+m))) E)) F) E i.size
    (.slice (some ⟨w.heap.size,0,none⟩) (n+m) (grownCap w (n+m) old E)) (n+m) (xs++news):=by
  intro old
  have hge:=grownCap_ge w (n+m) old E
  refine RowAt.of_blk (Blk.new w.drew _ E) (.inr ⟨Nat.le_refl _,by simp⟩) hlen hge (grownCap_le_maxLen w (n+m) old E h63) ?_ ?_
  ·simp only [Array.size_append,List.size_toArray,size_zeroCells,hzs,hx,hl,← Nat.add_mul]
   refine Nat.mul_le_mul_right _ (by omega)
  ·simp only [Array.toList_append,List.append_assoc]
   rw [← List.append_assoc,← hlen]
   exact List.take_left
 rcases h5 with ⟨hc,hb⟩ | ⟨g,cs,rfl,hg,hcs,htake,hF⟩
 ·have hn:n=0:=by omega
  subst hn;subst hc
  have hxs:xs=[]:=List.eq_nil_of_length_eq_zero (by simpa using hx)
  subst hxs;have hgr:=grown 0
  cases base with
  | none =>
   have hr:=run_append_nil (P:=P) w t ty E i z ht hi hz a m c news hl hnews (by omega) (by omega) (by simp only [Nat.zero_add] at hbytes;omega)
   simp only [Nat.zero_add,List.nil_append,Array.empty_append] at hgr ⊢
   exact ⟨_,_,hr,hgr,((Ch.refl F w).drew.alloc _)⟩
  | some b =>
   have hr:=run_append_grow (P:=P) w t ty E i z ht hi hz b 0 0 [] (by simp) (by simp) a m c news hl hnews (by omega) (by omega) (growslice_fits (by omega) hbytes)
   exact ⟨_,_,hr,hgr,((Ch.refl F w).drew.alloc _)⟩
 ·by_cases hroom:n+m≤cap
  ·have hfit:n*i.size+news.length≤cs.size:=by
    rw [hl,← Nat.add_mul]
    exact Nat.le_trans (Nat.mul_le_mul_right _ hroom) hcs
   have hr:=run_append_room (P:=P) w t ty E i ht hi g n cap cs hg a m c news hl hnews h1 hroom hfit
   refine ⟨_,_,hr,?_,(ch_row w g _).mono (fun k _ e=>e ▸ hF)⟩
   refine RowAt.of_blk (setRow_heap w g cs _ E _ hg) (.inl hF) hlen hroom hcm ?_ ?_
   ·simp only [List.size_toArray,List.length_append,List.length_take,List.length_drop,Array.length_toList]
    omega
   ·rw [htake,← hlen]
    exact List.take_left
  ·have holds:∀ j u,xs[j]? = some u→w.cell? ((⟨g,0,none⟩:Addr).add j)=some u:=fun j u hj=>by
    have:(⟨g,0,none⟩:Addr).add j=⟨g,j,none⟩:=by unfold Addr.add;split <;> simp_all
    rw [this,hg.cell j]
    have:=take_get htake hj
    simpa using this
   have hr:=run_append_grow (P:=P) w t ty E i z ht hi hz ⟨g,0,none⟩ n cap xs hx holds a m c news hl hnews (by omega) (by omega) (growslice_fits (by omega) hbytes)
   exact ⟨_,_,hr,grown cap,((Ch.refl F w).drew.alloc _)⟩
theorem wpList_app {ops:Array Oper} {rest:List Oper} {o:Oper} {A:Act} {Q:Exit→Act→World→Prop} (hgd:o.guard=none) (s x:Operand) (t:TypeId)
  (ho:o.op=.call { callee:=.builtin .append,args:=#[s,x],argTypes:=#[t,t] }) {E:TypeId} {sz by':Nat} {z:Value} (hE:(P.info? E).map (fun i=>(i.zero,i.size,i.bytes))=some (some z,sz,by')) (ht:P.underlying t=some (.slice E)) (hzs:z.cells.size=sz) (h0:0 < sz)
  {F:Nat→Prop} {v:Value} {n:Nat} {xs:List Value} (h:RowAt w F E sz v n xs) {a:Addr} {m c:Nat} {news:List Value} (hs:A.eval s=v) (hx:A.eval x=.slice (some a) m c) (hl:news.length=m*sz) (hnews:∀ j u,news[j]? = some u→w.cell? (a.add j)=some u) (h1:∀ u∈news,u.oneCell'=true) (hm:0 < m) (h63:n+m≤maxLen) (hbytes:(n+m)*by'≤140737488355328)
  (hK:∀ v' w',RowAt w' (Plus w w' F) E sz v' (n+m) (xs++news)→Ch F w w'→wpList P ops Q rest (A.put o.dst v') w'):wpList P ops Q (o::rest) A w:=by
 obtain ⟨i,hi,hz,hs1,hb1⟩:=info_parts hE
 refine wpList_plain hgd fun K hh=>?_
 obtain ⟨v',w',hr,h2,h3⟩:=run_app (P:=P) (ty:=o.type) ht hi hz hs1 hb1 hzs h0 h (c:=c) hl hnews h1 hm h63 hbytes
 unfold Oper.wp execOp
 simp only [ho,resolve,invoke,builtin,Sem.run_bind,Sem.run_pure,Result.andThen_ok,List.map_toArray,List.map_cons,List.map_nil,hs,hx,hr]
 exact hh _ _ (hK v' w' h2 h3)
end
def IntsAt (w:World) (F:Nat→Prop) (v:Value) (l:List Int):Prop:=RowAt w F 3 1 v l.length (l.map (Value.int .i64))
theorem IntsAt.nil (w:World) (F:Nat→Prop):IntsAt w F (.slice none 0 0) []:=RowAt.nil w F 3 1
theorem IntsAt.ch {F G:Nat→Prop} {v:Value} {l:List Int} (h:IntsAt w F v l) (hc:Ch G w w') (hd:∀ b,F b→¬ G b):IntsAt w' F v l:=RowAt.ch h hc hd
theorem IntsAt.same {v:Value} {l:List Int} (h:IntsAt w F v l) (hc:Ch (fun _=>False) w w'):IntsAt w' F v l:=RowAt.ch h hc (fun _ _ h=>h)
theorem IntsAt.mono {F G:Nat→Prop} {v:Value} {l:List Int} (h:IntsAt w F v l) (hd:∀ b,F b→G b):IntsAt w G v l:=RowAt.mono h hd
theorem IntsAt.open {v:Value} {l:List Int} (h:IntsAt w F v l) (hn:0 < l.length):∃ g cap,v=.slice (some ⟨g,0,none⟩) l.length cap∧l.length≤cap∧cap≤maxLen∧F g∧g < w.heap.size∧(∀ j,j < l.length→w.cell? ⟨g,j,none⟩=some (.int .i64 (l.getD j 0)))∧(∀ j,w.frozen? ⟨g,j,none⟩=false):=by
 obtain ⟨g,cap,h1,h2,h3,h4,h5,h6,h7⟩:=RowAt.open h hn
 refine ⟨g,cap,h1,h2,h3,h4,h5,fun j hj=>h6 j _ ?_,h7⟩
 simp [hj]
theorem make_any {P : Program} {t E : TypeId} {z : Value} {sz by' : Nat} (hE : (P.info? E).map (fun i => (i.zero, i.size, i.bytes)) = some (some z, sz, by')) (ht : P.underlying t = some (.slice E)) (hb : by' ≤ 65536) (n : Nat) (hn : n ≤ 65536) (W : World) :
    (Instr.makeSlice t (.int .i64 (n : Int)) (.int .i64 (n : Int))).run P W = .ok (.slice (some ⟨W.heap.size, 0, none⟩) n n) (W.alloc (.cells (madeCells z.cells (n * sz)) E)) := by
  obtain ⟨i, h1, h2, h3, h4⟩ := info_parts hE
  have hm : by' * n ≤ 65536 * 65536 := Nat.mul_le_mul hb hn
  have hr := run_make (P := P) W t E i z ht h1 h2 .i64 .i64 n n (by omega) (by omega) (by rw [h4]; have : ((by' * n : Nat) : Int) ≤ 281474976710656 := by omega
                                                                                          rwa [Int.natCast_mul] at this) (by omega)
  simp only [Int.toNat_natCast, h3] at hr
  exact hr
theorem info2:(prog.info? 2).map (fun i=>(i.zero,i.size,i.bytes))=some (some (.int .i64 0),1,8):=by kernel_rfl
theorem info3:(prog.info? 3).map (fun i=>(i.zero,i.size,i.bytes))=some (some (.int .i64 0),1,8):=by kernel_rfl
theorem wpList_app1 {w : World} {ops : Array Oper} {rest : List Oper} {o : Oper} {A : Act} {Q : Exit → Act → World → Prop} (hgd : o.guard = none) (s x : Operand)
    (ho : o.op = .call { callee := .builtin .append, args := #[s, x], argTypes := #[65, 65] }) {F : Nat → Prop} {v : Value} {l : List Int} (h : IntsAt w F v l) {b c : Nat} {n : Int} (hs : A.eval s = v) (hx : A.eval x = .slice (some ⟨b, 0, none⟩) 1 c) (hn : w.cell? ⟨b, 0, none⟩ = some (.int .i64 n)) (hl : l.length ≤ 1099511627776)
    (hK : ∀ v' w', IntsAt w' (Plus w w' F) v' (l ++ [n]) → Ch F w w' → wpList prog ops Q rest (A.put o.dst v') w') : wpList prog ops Q (o :: rest) A w := by
  refine wpList_app hgd s x 65 ho info3 underlying65 rfl (by omega) h (a := ⟨b, 0, none⟩) (m := 1) (c := c) (news := [.int .i64 n]) hs hx rfl ?_ (by simp [Value.oneCell']) (by omega) (by unfold maxLen; omega) (by omega) ?_
  · intro j u hj
    cases j with
    | zero => have : u = .int .i64 n := by simpa using hj.symm
              subst this
              exact hn
    | succ j => simp at hj
  · intro v' w' h1 h2
    refine hK v' w' ?_ h2
    unfold IntsAt
    simpa using h1
end
end Go.Proofs.YtiocbpabbjgkhaaGreatDoor
namespace Go.Proofs
open Go.Shelf
def Tryz.lays134_ren:Go.Shelf.Ren:=⟨fun | 134=>251 | 129=>306 | n=>n,fun | 53=>37 | 3=>3 | 4=>4 | 46=>331 | 5=>5 | 9=>9 | n=>n,fun | n=>n⟩
theorem Tryz.lays134:Go.Proofs.Lays.n134 Tryz.prog Tryz.lays134_ren:={
 mixed:=by kernel_rfl
 f129:=Tryz.func306.trans (congrArg some (by kernel_rfl))
 f134:=Tryz.func251.trans (congrArg some (by kernel_rfl))
 t3:=Tryz.underlying3
 a3:=Tryz.isAgg3
 z3:=Tryz.sizeOf3
 v3:=Tryz.zeroValue3
 t4:=Tryz.underlying4
 a4:=Tryz.isAgg4
 z4:=Tryz.sizeOf4
 v4:=Tryz.zeroValue4
 t5:=Tryz.underlying5
 a5:=Tryz.isAgg5
 z5:=Tryz.sizeOf5
 v5:=Tryz.zeroValue5
 t9:=Tryz.underlying9
 a9:=Tryz.isAgg9
 z9:=Tryz.sizeOf9
 v9:=Tryz.zeroValue9
 t46:=Tryz.underlying331
 a46:=Tryz.isAgg331
 z46:=Tryz.sizeOf331
 v46:=Tryz.zeroValue331
 t53:=Tryz.underlying37
 a53:=Tryz.isAgg37
 z53:=Tryz.sizeOf37
 v53:=Tryz.zeroValue37 }
theorem Tryz.bits_LeadingZeros64 (x:Int) (w:World) (h0:0≤x) (h1:x≤18446744073709551615) :
  Calls Tryz.prog 251 #[.int .u64 x] w fun e w'=>e=.returned (.int .i64 (64 - (Lib.bitLen x.toNat:Int)))∧w'=w:=Any.bits_LeadingZeros64 Tryz.lays134 x w h0 h1
def Tryz.lays136_ren:Go.Shelf.Ren:=⟨fun | 136=>333 | n=>n,fun | 5=>5 | 3=>3 | 9=>9 | n=>n,fun | n=>n⟩
theorem Tryz.lays136:Go.Proofs.Lays.n136 Tryz.prog Tryz.lays136_ren:={
 mixed:=by kernel_rfl
 f136:=Tryz.func333.trans (congrArg some (by kernel_rfl))
 t3:=Tryz.underlying3
 a3:=Tryz.isAgg3
 z3:=Tryz.sizeOf3
 v3:=Tryz.zeroValue3
 t5:=Tryz.underlying5
 a5:=Tryz.isAgg5
 z5:=Tryz.sizeOf5
 v5:=Tryz.zeroValue5
 t9:=Tryz.underlying9
 a9:=Tryz.isAgg9
 z9:=Tryz.sizeOf9
 v9:=Tryz.zeroValue9 }
theorem Tryz.bits_TrailingZeros8 (x:Int) (w:World) (h0:0≤x) (h1:x≤255) :
  Calls Tryz.prog 333 #[.int .u8 x] w fun e w'=>e=.returned (.int .i64 (Lib.trailingZeros8 x.toNat))∧w'=w:=Any.bits_TrailingZeros8 Tryz.lays136 x w h0 h1
def Tryz.lays129_ren:Go.Shelf.Ren:=⟨fun | 129=>306 | n=>n,fun | 53=>37 | 3=>3 | 4=>4 | 46=>331 | 5=>5 | 9=>9 | n=>n,fun | n=>n⟩
theorem Tryz.lays129:Go.Proofs.Lays.n129 Tryz.prog Tryz.lays129_ren:={
 mixed:=by kernel_rfl
 f129:=Tryz.func306.trans (congrArg some (by kernel_rfl))
 t3:=Tryz.underlying3
 a3:=Tryz.isAgg3
 z3:=Tryz.sizeOf3
 v3:=Tryz.zeroValue3
 t4:=Tryz.underlying4
 a4:=Tryz.isAgg4
 z4:=Tryz.sizeOf4
 v4:=Tryz.zeroValue4
 t5:=Tryz.underlying5
 a5:=Tryz.isAgg5
 z5:=Tryz.sizeOf5
 v5:=Tryz.zeroValue5
 t9:=Tryz.underlying9
 a9:=Tryz.isAgg9
 z9:=Tryz.sizeOf9
 v9:=Tryz.zeroValue9
 t46:=Tryz.underlying331
 a46:=Tryz.isAgg331
 z46:=Tryz.sizeOf331
 v46:=Tryz.zeroValue331
 t53:=Tryz.underlying37
 a53:=Tryz.isAgg37
 z53:=Tryz.sizeOf37
 v53:=Tryz.zeroValue37 }
theorem Tryz.bits_Len64 (x:Int) (w:World) (h0:0≤x) (h1:x≤18446744073709551615) :
  Calls Tryz.prog 306 #[.int .u64 x] w fun e w'=>e=.returned (.int .i64 (Lib.bitLen x.toNat))∧w'=w:=Any.bits_Len64 Tryz.lays129 x w h0 h1
def Tryz.lays264_ren:Go.Shelf.Ren:=⟨fun | 264=>173 | n=>n,fun | 53=>37 | 46=>331 | n=>n,fun | n=>n⟩
theorem Tryz.lays264:Go.Proofs.Lays.n264 Tryz.prog Tryz.lays264_ren:={
 mixed:=by kernel_rfl
 f264:=Tryz.func173.trans (congrArg some (by kernel_rfl))
 t46:=Tryz.underlying331
 a46:=Tryz.isAgg331
 z46:=Tryz.sizeOf331
 v46:=Tryz.zeroValue331
 t53:=Tryz.underlying37
 a53:=Tryz.isAgg37
 z53:=Tryz.sizeOf37
 v53:=Tryz.zeroValue37 }
open Go.RowKit Go.Lib in
theorem Tryz.bits_Mul64 (x y:Nat) (hx:x < 18446744073709551616) (hy:y < 18446744073709551616) (w:World) :
  Calls Tryz.prog 173 #[.int .u64 x,.int .u64 y] w fun e w'=>e=.returned (.tuple #[.int .u64 ((x*y / 18446744073709551616:Nat):Int),.int .u64 ((x*y % 18446744073709551616:Nat):Int)])∧w'=w:=Any.bits_Mul64 Tryz.lays264 x y hx hy w
def Tryz.lays108_ren:Go.Shelf.Ren:=⟨fun | 108=>329 | n=>n,fun | 28=>65 | 3=>3 | 0=>0 | 4=>4 | n=>n,fun | n=>n⟩
theorem Tryz.lays108:Go.Proofs.Lays.n108 Tryz.prog Tryz.lays108_ren:={
 mixed:=by kernel_rfl
 f108:=Tryz.func329.trans (congrArg some (by kernel_rfl))
 t0:=Tryz.underlying0
 a0:=Tryz.isAgg0
 z0:=Tryz.sizeOf0
 v0:=Tryz.zeroValue0
 t3:=Tryz.underlying3
 a3:=Tryz.isAgg3
 z3:=Tryz.sizeOf3
 v3:=Tryz.zeroValue3
 t4:=Tryz.underlying4
 a4:=Tryz.isAgg4
 z4:=Tryz.sizeOf4
 v4:=Tryz.zeroValue4
 t28:=Tryz.underlying65
 a28:=Tryz.isAgg65
 z28:=Tryz.sizeOf65
 v28:=Tryz.zeroValue65 }
open Go.Lib in
theorem Tryz.slices_Index_int (b off n c:Nat) (zs:List Int) (x:Int) (w:World) (hz:n≤zs.length) (hbig:n≤9223372036854775807) (hc:∀ j,j < zs.length→w.cell? ⟨b,off+j,none⟩=some (.int .i64 (zs.getD j 0))) :
  Calls Tryz.prog 329 #[.slice (some ⟨b,off,none⟩) n c,.int .i64 x] w fun e w'=>e=.returned (.int .i64 (Lib.idxOf (zs.take n) x))∧w'=w:=Any.slices_Index_int Tryz.lays108 b off n c zs x w hz hbig hc
open Go.Lib in
theorem Tryz.slices_Index_int_empty (a:Option Addr) (c:Nat) (x:Int) (w:World) :
  Calls Tryz.prog 329 #[.slice a 0 c,.int .i64 x] w fun e w'=>e=.returned (.int .i64 (Lib.idxOf [] x))∧w'=w:=Any.slices_Index_int_empty Tryz.lays108 a c x w
def Tryz.lays107_ren:Go.Shelf.Ren:=⟨fun | 107=>291 | 108=>329 | n=>n,fun | 28=>65 | 3=>3 | 4=>4 | 0=>0 | n=>n,fun | n=>n⟩
theorem Tryz.lays107:Go.Proofs.Lays.n107 Tryz.prog Tryz.lays107_ren:={
 mixed:=by kernel_rfl
 f107:=Tryz.func291.trans (congrArg some (by kernel_rfl))
 f108:=Tryz.func329.trans (congrArg some (by kernel_rfl))
 t0:=Tryz.underlying0
 a0:=Tryz.isAgg0
 z0:=Tryz.sizeOf0
 v0:=Tryz.zeroValue0
 t3:=Tryz.underlying3
 a3:=Tryz.isAgg3
 z3:=Tryz.sizeOf3
 v3:=Tryz.zeroValue3
 t4:=Tryz.underlying4
 a4:=Tryz.isAgg4
 z4:=Tryz.sizeOf4
 v4:=Tryz.zeroValue4
 t28:=Tryz.underlying65
 a28:=Tryz.isAgg65
 z28:=Tryz.sizeOf65
 v28:=Tryz.zeroValue65 }
open Go.Lib in
theorem Tryz.slices_Contains_int (b off n c:Nat) (zs:List Int) (x:Int) (w:World) (hz:n≤zs.length) (hbig:n≤9223372036854775807) (hc:∀ j,j < zs.length→w.cell? ⟨b,off+j,none⟩=some (.int .i64 (zs.getD j 0))) :
  Calls Tryz.prog 291 #[.slice (some ⟨b,off,none⟩) n c,.int .i64 x] w fun e w'=>e=.returned (.bool ((zs.take n).contains x))∧w'=w:=Any.slices_Contains_int Tryz.lays107 b off n c zs x w hz hbig hc
open Go.Lib in
theorem Tryz.slices_Contains_int_empty (a:Option Addr) (c:Nat) (x:Int) (w:World) :
  Calls Tryz.prog 291 #[.slice a 0 c,.int .i64 x] w fun e w'=>e=.returned (.bool false)∧w'=w:=Any.slices_Contains_int_empty Tryz.lays107 a c x w
def Tryz.laysNm215_ren:Go.Shelf.Ren:=⟨fun | 15=>252 | n=>n,fun | 22=>65 | 3=>3 | 4=>4 | n=>n,fun | n=>n⟩
theorem Tryz.laysNm215:Go.Proofs.Lays2.n15 Tryz.prog Tryz.laysNm215_ren:={
 mixed:=by kernel_rfl
 f15:=Tryz.func252.trans (congrArg some (by kernel_rfl))
 t3:=Tryz.underlying3
 a3:=Tryz.isAgg3
 z3:=Tryz.sizeOf3
 v3:=Tryz.zeroValue3
 t4:=Tryz.underlying4
 a4:=Tryz.isAgg4
 z4:=Tryz.sizeOf4
 v4:=Tryz.zeroValue4
 t22:=Tryz.underlying65
 a22:=Tryz.isAgg65
 z22:=Tryz.sizeOf65
 v22:=Tryz.zeroValue65
 i3:=by kernel_rfl }
open Go.RowKit Go.Lib in
theorem Tryz.slices_Clone_int (b off n c:Nat) (zs:List Int) (w:World) (hz:n≤zs.length) (hbig:n*8≤140737488355328) (hc:∀ j,j < zs.length→w.cell? ⟨b,off+j,none⟩=some (.int .i64 (zs.getD j 0))) :
  Calls Tryz.prog 252 #[.slice (some ⟨b,off,none⟩) n c] w fun e w'=>∃ v',e=.returned v'∧w'.ownsRow w.heap.size 3 1 v' n ((zs.take n).map (Value.int .i64))∧v'≠.slice none 0 0∧Below w.heap.size w w':=Any.slices_Clone_int Tryz.laysNm215 b off n c zs w hz hbig hc
open Go.RowKit Go.Lib in
theorem Tryz.slices_Clone_int_nil (n c:Nat) (w:World) :
  Calls Tryz.prog 252 #[.slice none n c] w fun e w'=>e=.returned (.slice none 0 0)∧w'=w:=Any.slices_Clone_int_nil Tryz.laysNm215 n c w
open Go.RowKit Go.Lib in
theorem Tryz.slices_Clone_int_zero (a:Addr) (c:Nat) (w:World) :
  Calls Tryz.prog 252 #[.slice (some a) 0 c] w fun e w'=>∃ v',e=.returned v'∧w'.ownsRow w.heap.size 3 1 v' 0 []∧v'≠.slice none 0 0∧Below w.heap.size w w':=Any.slices_Clone_int_zero Tryz.laysNm215 a c w
def Tryz.laysNm237_ren:Go.Shelf.Ren:=⟨fun | 37=>310 | n=>n,fun | 3=>3 | 4=>4 | n=>n,fun | n=>n⟩
theorem Tryz.laysNm237:Go.Proofs.Lays2.n37 Tryz.prog Tryz.laysNm237_ren:={
 mixed:=by kernel_rfl
 f37:=Tryz.func310.trans (congrArg some (by kernel_rfl))
 t3:=Tryz.underlying3
 a3:=Tryz.isAgg3
 z3:=Tryz.sizeOf3
 v3:=Tryz.zeroValue3
 t4:=Tryz.underlying4
 a4:=Tryz.isAgg4
 z4:=Tryz.sizeOf4
 v4:=Tryz.zeroValue4 }
open Go.RowKit Go.Lib in
theorem Tryz.cmp_isNaN_int2 (x:Int) (w:World) :
  Calls Tryz.prog 310 #[.int .i64 x] w fun e w'=>e=.returned (.bool false)∧w'=w:=Any.cmp_isNaN_int2 Tryz.laysNm237 x w
def Tryz.laysSlN68_f309_ren:Go.Shelf.Ren:=⟨fun | 68=>309 | n=>n,fun | 23=>2 | 4=>4 | n=>n,fun | n=>n⟩
theorem Tryz.laysSlN68_f309:Go.Proofs.SlLaysN.n68 Tryz.prog Tryz.laysSlN68_f309_ren:={
 mixed:=by kernel_rfl
 f68:=⟨Tryz.f309.name,by decide,Tryz.func309.trans (congrArg some (by kernel_rfl))⟩
 t4:=Tryz.underlying4
 a4:=Tryz.isAgg4
 z4:=Tryz.sizeOf4
 v4:=Tryz.zeroValue4
 t23:=Tryz.underlying2
 a23:=Tryz.isAgg2
 z23:=Tryz.sizeOf2
 v23:=Tryz.zeroValue2 }
open Go.RowKit Go.Lib in
theorem Tryz.cmp_isNaN_int2_f309 (x:Int) (w:World) :
  Calls Tryz.prog 309 #[.int .i64 x] w fun e w'=>e=.returned (.bool false)∧w'=w:=AnyG.cmp_isNaN_int2 Tryz.laysSlN68_f309 x w
end Go.Proofs
namespace Go.Proofs
open Go.Shelf
def Tryz.laysTz_ren:Go.Shelf.Ren:=⟨fun | 29=>231 | n=>n,fun | 22=>37 | 3=>3 | 4=>4 | 25=>331 | 54=>356 | 0=>0 | 5=>5 | n=>n,fun | 1=>2 | n=>n⟩
theorem Tryz.laysTz:Go.Proofs.Lays7.n29 Tryz.prog Tryz.laysTz_ren:={
 mixed:=by kernel_rfl
 f29:=Tryz.func231.trans (congrArg some (by kernel_rfl))
 t0:=Tryz.underlying0
 a0:=Tryz.isAgg0
 z0:=Tryz.sizeOf0
 v0:=Tryz.zeroValue0
 i0:=by kernel_rfl
 t3:=Tryz.underlying3
 a3:=Tryz.isAgg3
 z3:=Tryz.sizeOf3
 v3:=Tryz.zeroValue3
 i3:=by kernel_rfl
 t4:=Tryz.underlying4
 a4:=Tryz.isAgg4
 z4:=Tryz.sizeOf4
 v4:=Tryz.zeroValue4
 i4:=by kernel_rfl
 t5:=Tryz.underlying5
 a5:=Tryz.isAgg5
 z5:=Tryz.sizeOf5
 v5:=Tryz.zeroValue5
 i5:=by kernel_rfl
 t22:=Tryz.underlying37
 a22:=Tryz.isAgg37
 z22:=Tryz.sizeOf37
 v22:=Tryz.zeroValue37
 i22:=by kernel_rfl
 t25:=Tryz.underlying331
 a25:=Tryz.isAgg331
 z25:=Tryz.sizeOf331
 v25:=Tryz.zeroValue331
 i25:=by kernel_rfl
 t54:=Tryz.underlying356
 a54:=Tryz.isAgg356
 z54:=Tryz.sizeOf356
 g1:=by kernel_rfl }
def Tryz.laysDeleteFunc_ren:Go.Shelf.Ren:=⟨fun | 10=>327 | 6=>258 | n=>n,fun | 22=>65 | 23=>3 | 25=>53 | 3=>3 | 4=>4 | 0=>0 | n=>n,fun | n=>n⟩
theorem Tryz.laysDeleteFunc:Go.Proofs.SlLaysH.n10 Tryz.prog Tryz.laysDeleteFunc_ren:={
 mixed:=by kernel_rfl
 f6:=⟨Tryz.f258.name,by decide,Tryz.func258.trans (congrArg some (by kernel_rfl))⟩
 f10:=⟨Tryz.f327.name,by decide,Tryz.func327.trans (congrArg some (by kernel_rfl))⟩
 t0:=Tryz.underlying0
 a0:=Tryz.isAgg0
 z0:=Tryz.sizeOf0
 v0:=Tryz.zeroValue0
 t3:=Tryz.underlying3
 a3:=Tryz.isAgg3
 z3:=Tryz.sizeOf3
 v3:=Tryz.zeroValue3
 t4:=Tryz.underlying4
 a4:=Tryz.isAgg4
 z4:=Tryz.sizeOf4
 v4:=Tryz.zeroValue4
 t22:=Tryz.underlying65
 a22:=Tryz.isAgg65
 z22:=Tryz.sizeOf65
 v22:=Tryz.zeroValue65
 a23:=Tryz.isAgg3
 z23:=Tryz.sizeOf3
 t25:=Tryz.underlying53
 a25:=Tryz.isAgg53
 z25:=Tryz.sizeOf53
 v25:=Tryz.zeroValue53 }
end Go.Proofs
namespace Go.Proofs.YtiocbpabbjgkhaaGreatDoor.NumA
theorem mul_split (q vn1 B vn0:Nat):q*(vn1*B+vn0)=q*vn1*B+q*vn0:=by rw [Nat.mul_add,Nat.mul_assoc]
theorem step_big {B vn1 vn0 u d q r:Nat} (hu:u < vn1*B+vn0) (hd:d < B) (he:u=q*vn1+r) (h:B≤q∨r*B+d < q*vn0) :
  (u*B+d) / (vn1*B+vn0) < q:=by
 have hp:0 < vn1*B+vn0:=Nat.lt_of_le_of_lt (Nat.zero_le _) hu
 rw [Nat.div_lt_iff_lt_mul hp]
 rcases h with h | h
 ·have h1:u*B+d < (u+1)*B:=by rw [Nat.add_mul];omega
  have h2:(u+1)*B≤(vn1*B+vn0)*B:=Nat.mul_le_mul_right B hu
  have h3:(vn1*B+vn0)*B≤(vn1*B+vn0)*q:=Nat.mul_le_mul_left _ h
  rw [Nat.mul_comm q]
  exact Nat.lt_of_lt_of_le h1 (Nat.le_trans h2 h3)
 ·rw [mul_split,he,Nat.add_mul]
  omega
theorem step_fits {B vn1 vn0 u d q r:Nat} (hu:u < vn1*B+vn0) (he:u=q*vn1+r) (h:q*vn0≤r*B+d) :
  q≤(u*B+d) / (vn1*B+vn0):=by
 have hp:0 < vn1*B+vn0:=Nat.lt_of_le_of_lt (Nat.zero_le _) hu
 rw [Nat.le_div_iff_mul_le hp,mul_split,he,Nat.add_mul]
 omega
theorem step_start {B vn1 vn0 u:Nat} (hv0:vn0 < B) (hv1:B≤2*vn1) (hu:u < vn1*B+vn0):u / vn1≤B+1:=by
 have h0:0 < vn1:=by omega
 have h:u / vn1 < B+2:=by
  rw [Nat.div_lt_iff_lt_mul h0,Nat.add_mul,Nat.mul_comm B]
  omega
 omega
theorem step_guess {B vn1 vn0 u d:Nat} (h0:0 < vn1) (hu:u < vn1*B+vn0) (hd:d < B):(u*B+d) / (vn1*B+vn0)≤u / vn1:=by
 have hp:0 < vn1*B+vn0:=Nat.lt_of_le_of_lt (Nat.zero_le _) hu
 have h:(u*B+d) / (vn1*B+vn0) < u / vn1+1:=by
  rw [Nat.div_lt_iff_lt_mul hp]
  have h1:=Nat.lt_mul_div_succ u h0
  have h2:(u+1)*B≤vn1*(u / vn1+1)*B:=Nat.mul_le_mul_right B h1
  have h3:vn1*(u / vn1+1)*B=(u / vn1+1)*vn1*B:=by rw [Nat.mul_comm vn1]
  rw [mul_split];rw [Nat.add_mul] at h2
  omega
 omega
theorem step_over {B vn1 vn0 u d q r:Nat} (hv0:vn0 < B) (hu:u < vn1*B+vn0) (he:u=q*vn1+r) (hr:B≤r):q < B∧q*vn0≤r*B+d:=by
 have hq:q < B:=by
  rcases Nat.lt_or_ge q B with h | h
  ·exact h
  ·have h1:B*vn1≤q*vn1:=Nat.mul_le_mul_right _ h
   rw [Nat.mul_comm B] at h1
   omega
 refine ⟨hq,?_⟩
 have h1:q*vn0≤B*B:=Nat.mul_le_mul (by omega) (by omega)
 have h2:B*B≤r*B:=Nat.mul_le_mul_right _ hr
 omega
theorem two_steps {B v u a b q1 r1:Nat} (hv:0 < v) (h1:q1=(u*B+a) / v) (hr1:r1=(u*B+a) - q1*v) :
  r1 < v∧q1*B+(r1*B+b) / v=((u*B+a)*B+b) / v:=by
 have e:=Nat.div_add_mod (u*B+a) v
 rw [← h1,Nat.mul_comm] at e
 have hm:=Nat.mod_lt (u*B+a) hv
 have h4:u*B+a=q1*v+r1:=by omega
 refine ⟨by omega,?_⟩
 have e2:(u*B+a)*B+b=(r1*B+b)+q1*B*v:=by
  rw [h4,Nat.add_mul,Nat.mul_assoc q1 v B,Nat.mul_comm v B,← Nat.mul_assoc]
  omega
 rw [e2,Nat.add_mul_div_right _ _ hv,Nat.add_comm]
end Go.Proofs.YtiocbpabbjgkhaaGreatDoor.NumA
