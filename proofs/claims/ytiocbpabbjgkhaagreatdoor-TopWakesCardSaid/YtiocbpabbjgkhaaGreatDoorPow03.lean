/- Part 3 of the proof: contracts and plain laws, each under the conditions that it names. -/
import Derived.Test.YtiocbpabbjgkhaaGreatDoorPow02
import Derived.Laws.DeepNot64
import Derived.Deep.Quiet
import Derived.WalkKit
import Derived.Laws.CopyRow
import Derived.Laws.IdiomCopy
set_option maxRecDepth 100000
set_option maxHeartbeats 20000000
set_option linter.unusedVariables false
set_option linter.unusedSimpArgs false
namespace Go.Proofs.YtiocbpabbjgkhaaGreatDoor
open Go.RowKit Go.Proofs.Tryz
variable {w w' : World} {F : Nat → Prop} {p : Nat}
theorem SlotAtQ.at {p q most:Nat} {s:Slot} (h:SlotAtQ w F p q most s):SlotAt w F p most s:=⟨q,h⟩
theorem slot_new (w:World) (most:Nat) (h1:1≤most) (h64:most≤64):Calls prog 112 #[.int .i64 most] w fun e w'=>(∃ p,e=.returned (.tuple #[.pointer (some ⟨p,0,none⟩),.int .i64 0])∧SlotAt w' (Plus w w' (fun _=>False)) p most ⟨0,0⟩)∧Below w.heap.size w w':=by
 have hd:((most:Int)+64 - 1) / 64=1:=by omega
 have hmk:∀ w,(Instr.makeSlice 286 (.int .i64 1) (.int .i64 1)).run prog w=.ok (.slice (some ⟨w.heap.size,0,none⟩) 1 1) (w.alloc (.cells #[.int .u64 0] 37)):=fun _=>by kernel_rfl
 go_enter func112,ntmps112
 go_wp2;go_returns
 refine ⟨⟨_,rfl,w.heap.size,Blk.at _ _ (by simp),(Blk.new _ _ _).alloc _,?_,?_,by omega,by decide,h1,h64⟩,((Below.refl _ _).alloc (Nat.le_refl _) _).alloc (by simp) _⟩
 ·exact .inr (by simp <;> omega)
 ·exact .inr (by simp <;> omega)
theorem u64_not (a:Nat) (ha:a < top64):bits .xor .u64 IntKind.u64.max (a:Int)=((top64 - 1 - a:Nat):Int):=by
 have e0:IntKind.u64.max=((2 ^ 64 - 1:Nat):Int):=by decide
 unfold top64 at *
 show IntKind.u64.wrap ((BitVec.ofInt 64 IntKind.u64.max ^^^ BitVec.ofInt 64 (a:Int)).toNat:Int)=_
 have e1:(BitVec.ofInt 64 (a:Int))=BitVec.ofNat 64 a:=BitVec.ofInt_natCast ..
 have e2:BitVec.ofInt 64 IntKind.u64.max=BitVec.allOnes 64:=by rw [e0];decide
 rw [e1,e2,BitVec.allOnes_xor,BitVec.toNat_not,BitVec.toNat_ofNat,Nat.mod_eq_of_lt (by omega),IntKind.wrap_u64]
 omega
def slotTake (most:Nat) (s:Slot):Slot × Int × Int :=
 if s.many=most then (s,0,5) else
 if Lib.ctz 64 (top64 - 1 - s.m) < 64 then (⟨s.m ||| 2 ^ Lib.ctz 64 (top64 - 1 - s.m),wrap64 (s.many+1)⟩,((Lib.ctz 64 (top64 - 1 - s.m):Nat):Int)+1,0) else (s,0,5)
theorem slot_take (w:World) {p most:Nat} {s:Slot} (h:SlotAt w F p most s) (hT:Tab w):Calls prog 152 #[.pointer (some ⟨p,0,none⟩)] w fun e w'=>e=.returned (.tuple #[.int .i64 (slotTake most s).2.1,.int .i64 (slotTake most s).2.2])∧SlotAt w' (Plus w w' F) p most (slotTake most s).1∧Ch F w w':=by
 have HS:=Hd h;obtain ⟨q,hq⟩:=h
 have c0:w.cell? ⟨p,0,none⟩=some (.slice (some ⟨q,0,none⟩) 1 1):=hq.head.cell 0
 have c1:w.cell? ⟨p,1,none⟩=some (.int .i64 most):=hq.head.cell 1
 have c2:w.cell? ⟨p,2,none⟩=some (.int .i64 s.many):=hq.head.cell 2
 have cq:w.cell? ⟨q,0,none⟩=some (.int .u64 s.m):=hq.word.cell 0
 have fq:w.frozen? ⟨q,0,none⟩=false:=hq.word.frozen 0
 have fp:w.frozen? ⟨p,2,none⟩=false:=hq.head.frozen 2
 by_cases hm:s.many=most
 ·have e:slotTake most s=(s,0,5):=by unfold slotTake;rw [if_pos hm]
  rw [e]
  have hb:((s.many:Int) == most)=true:=by simpa using hm
  clear e hm hq
  go_enter func152,ntmps152
  go_wp2;go_quiet (fail);go_wp2;go_returns
  exact ⟨rfl,by rw [Plus.drewN];exact HS.out.below (belowN _ _),(Ch.refl _ _).drewN _⟩
 ·have hb:((s.many:Int) == most)=false:=by simpa using hm
  have hn:=u64_not s.m hq.lt
  have hlt:top64 - 1 - s.m < top64:=by unfold top64;omega
  have T:=Hd (fun n=>tz_any _ hlt (w.drewN n) hT)
  have e0:slotTake most s=if Lib.ctz 64 (top64 - 1 - s.m) < 64 then (⟨s.m ||| 2 ^ Lib.ctz 64 (top64 - 1 - s.m),wrap64 (s.many+1)⟩,((Lib.ctz 64 (top64 - 1 - s.m):Nat):Int)+1,0) else (s,0,5):=by unfold slotTake;rw [if_neg hm]
  rw [e0];have HQ:=Hd hq;have hne:=hq.ne;clear e0 hm hq hlt;generalize top64 - 1 - s.m=x at *;generalize Lib.ctz 64 x=k at *
  by_cases hk:k < 64
  ·rw [if_pos hk]
   have ho:=or64 s.m (2 ^ k) HQ.out.lt (pow_lt64 hk)
   have hs:=wrap_pow k hk
   have hml:s.m ||| 2 ^ k < top64:=Nat.or_lt_two_pow (n:=64) HQ.out.lt (pow_lt64 hk)
   generalize 2 ^ k=b at *
   go_enter func152,ntmps152
   go_wp2;go_quiet (fail);go_wp2
   refine wp_loop_rounds 2 ?_
   rw [rounds_succ];go_wp2_with fail;refine (T.out _).mono ?_;rintro e w' ⟨rfl,rfl⟩;go_wp2_with fail
   go_region
   go_wp2;go_returns
   exact ⟨by simp,by rw [Plus.eq (by simp)];exact ⟨q,((HQ.out.head.drewN _).far (p:=⟨q,0,none⟩) (Ne.symm hne) _).set 2 _,((HQ.out.word.drewN _).set 0 _).far (p:=⟨p,2,none⟩) hne _,HQ.out.fp,HQ.out.fq,hne,hml,HQ.out.m1,HQ.out.m64⟩,(((Ch.refl F w).drewN _).setCell (fun _=>HQ.out.fq) _).setCell (fun _=>HQ.out.fp) _⟩
  ·rw [if_neg hk]
   go_enter func152,ntmps152
   go_wp2;go_quiet (fail);go_wp2
   refine wp_loop_rounds 2 ?_
   rw [rounds_succ];go_wp2_with fail;refine (T.out _).mono ?_;rintro e w' ⟨rfl,rfl⟩;go_wp2_with fail;rw [rounds_succ];go_wp2;go_returns
   exact ⟨by simp,by rw [Plus.drewN];exact HS.out.below (belowN _ _),(Ch.refl _ _).drewN _⟩
def slotGive (most:Nat) (s:Slot) (n:Int):Slot × Int:=if slotHas most s n then (⟨notF s.m (2 ^ (n - 1).toNat),wrap64 (s.many - 1)⟩,0) else (s,4)
theorem slot_give (w:World) {p most:Nat} {s:Slot} (h:SlotAt w F p most s) (n:Int):Calls prog 271 #[.pointer (some ⟨p,0,none⟩),.int .i64 n] w fun e w'=>e=.returned (.int .i64 (slotGive most s n).2)∧SlotAt w' (Plus w w' F) p most (slotGive most s n).1∧Ch F w w':=by
 have HS:=Hd h
 by_cases hn:n < 1∨(1≤n∧(most:Int) < n)
 ·have B:=Hd (bit_out w h n hn)
  have e:slotGive most s n=(s,4):=by unfold slotGive slotHas;rw [decide_eq_false (by omega),Bool.false_and,if_neg (by simp)]
  rw [e];clear e hn h
  go_enter func271,ntmps271
  go_wp2_with fail;refine B.out.mono ?_;rintro e w' ⟨rfl,rfl⟩;go_wp2;go_returns
  exact ⟨rfl,by rw [Plus.self];exact HS.out,Ch.refl _ _⟩
 ·obtain ⟨i,rfl⟩:∃ i:Nat,n=(i:Int)+1:=⟨(n - 1).toNat,by omega⟩
  obtain ⟨q,hq⟩:=h
  have B:=Hd (bit_in w hq i (by omega))
  have c0:w.cell? ⟨q,0,none⟩=some (.int .u64 s.m):=hq.word.cell 0
  have c2:w.cell? ⟨p,2,none⟩=some (.int .i64 s.many):=hq.head.cell 2
  have fq:w.frozen? ⟨q,0,none⟩=false:=hq.word.frozen 0
  have fp:w.frozen? ⟨p,2,none⟩=false:=hq.head.frozen 2
  have m64:=hq.m64
  have e:slotGive most s ((i:Int)+1)=if (s.m &&& 2 ^ i != 0) then (⟨notF s.m (2 ^ i),wrap64 (s.many - 1)⟩,0) else (s,4):=by
   unfold slotGive slotHas;rw [decide_eq_true (by omega),Bool.true_and,and_pow,show ((i:Int)+1 - 1).toNat=i by omega]
  have ha:=and64 s.m (2 ^ i) hq.lt (pow_lt64 (by omega))
  have hx:=u64_andNot_nat s.m (2 ^ i) hq.lt (pow_lt64 (by omega))
  have hlt:=notF_lt s.m (2 ^ i) hq.lt
  have HQ:=Hd hq;have hne:=hq.ne;rw [e];clear e hn hq;generalize 2 ^ i=b at *
  by_cases hr:s.m &&& b=0
  ·rw [hr] at ha
   rw [if_neg (by simp [hr])]
   clear hr
   go_enter func271,ntmps271
   go_wp2_with fail;refine B.out.mono ?_;rintro e w' ⟨rfl,k,rfl⟩;go_wp2;go_returns
   exact ⟨rfl,by rw [Plus.drewN];exact HS.out.below (belowN _ _),(Ch.refl _ _).drewN _⟩
  ·rw [if_pos (by simpa using hr)]
   have h0:(((s.m &&& b:Nat):Int) == 0)=false:=by simpa using hr
   clear hr
   go_enter func271,ntmps271
   go_wp2_with fail;refine B.out.mono ?_;rintro e w' ⟨rfl,k,rfl⟩;go_wp2;go_returns
   exact ⟨rfl,by rw [Plus.eq (by simp)];exact ⟨q,((HQ.out.head.drewN _).far (p:=⟨q,0,none⟩) (Ne.symm hne) _).set 2 _,((HQ.out.word.drewN _).set 0 _).far (p:=⟨p,2,none⟩) hne _,HQ.out.fp,HQ.out.fq,hne,hlt,HQ.out.m1,HQ.out.m64⟩,(((Ch.refl F w).drewN _).setCell (fun _=>HQ.out.fq) _).setCell (fun _=>HQ.out.fp) _⟩
theorem cap_any (w:World) {p most:Nat} {s:Slot} (h:SlotAt w F p most s):Calls prog 362 #[.pointer (some ⟨p,0,none⟩)] w fun e w'=>e=.returned (.int .i64 most)∧w=w':=by
 obtain ⟨q,hq⟩:=h
 have c1:w.cell? ⟨p,1,none⟩=some (.int .i64 most):=hq.head.cell 1
 clear hq
 go_enter func362,ntmps362
 go_wp2;go_returns
 exact ⟨rfl,rfl⟩
def slotTo (most:Nat) (s:Slot) (k:Nat):List Int:=((List.range k).filter fun (i:Nat)=>slotHas most s ((i:Int)+1)).map fun (i:Nat)=>(i:Int)+1
def slotList (most:Nat) (s:Slot):List Int:=slotTo most s most
theorem slotTo_yes {most:Nat} {s:Slot} {k:Nat} (h:slotHas most s ((k:Int)+1)=true):slotTo most s (k+1)=slotTo most s k++[(k:Int)+1]:=by
 simp [slotTo,List.range_succ,List.filter_append,h]
theorem slotTo_no {most:Nat} {s:Slot} {k:Nat} (h:slotHas most s ((k:Int)+1)=false):slotTo most s (k+1)=slotTo most s k:=by
 simp [slotTo,List.range_succ,List.filter_append,h]
theorem slotTo_len (most:Nat) (s:Slot) (k:Nat):(slotTo most s k).length≤k:=by
 unfold slotTo;rw [List.length_map]
 exact Nat.le_trans (List.length_filter_le _ _) (by simp)
def New (w:World):Nat→Prop:=fun b=>w.heap.size≤b
theorem New.plus {w wr w':World} (h:w.heap.size≤wr.heap.size):∀ b,Plus wr w' (New w) b→New w b:=fun b hb=>hb.elim id (fun e=>Nat.le_trans h e.1)
theorem New.below {w wr w':World} (h:Below w.heap.size w wr) (hc:Ch (New w) wr w'):Below w.heap.size w w':=h.trans (hc.below h.size (fun k hk e=>by unfold New at e;omega))
theorem slot_list (w:World) {p most:Nat} {s:Slot} (h:SlotAt w F p most s):Calls prog 348 #[.pointer (some ⟨p,0,none⟩)] w fun e w'=>(∃ v,e=.returned v∧IntsAt w' (New w) v (slotList most s))∧Below w.heap.size w w':=by
 have HS:=Hd h
 have hm64:most≤64:=by obtain ⟨q,hq⟩:=h;exact hq.m64
 have C:=Hd (cap_any w h);clear h
 go_enter func348,ntmps348
 go_wp2_with fail;refine C.out.mono ?_;rintro e w' ⟨rfl,rfl⟩;go_wp2
 go_loopw [7,4,3] (fun iv _ lv wr=>∃ k:Nat,iv=.int .i64 k∧k≤most∧Hid (IntsAt wr (New w) lv (slotTo most s k))∧Hid (Below w.heap.size w wr)) (fun iv _ _ _=>most - (intOf iv).toNat)
 case atStart=>exact ⟨0,rfl,Nat.zero_le _,Hd (show IntsAt w (New w) _ [] from IntsAt.nil _ _),Hd (Below.refl _ _)⟩
 case round =>
  obtain ⟨k,rfl,hk,HL,HB⟩:=hrel;have hz:=HB.out.size
  by_cases hlt:k < most
  ·have A:=Hd (shas_any wr (HS.out.below HB.out) ((k:Int)+1))
   have hle:(slotTo most s k).length≤1099511627776:=by have:=slotTo_len most s k;omega
   cases hh:slotHas most s ((k:Int)+1) with
   | false =>
    have HH:=Hd (slotTo_no hh);rw [hh] at A;clear hh;go_wp2_with fail;refine A.out.mono ?_;rintro e w' ⟨rfl,n,rfl⟩;go_wp2;go_roundw
    case rel=>exact ⟨k+1,by go_num,hlt,Hd (by rw [HH.out];exact HL.out.ch ((Ch.refl (fun _=>False) _).drewN _) (fun _ _ h=>h)),Hd (HB.out.trans ((belowN _ _).mono hz))⟩
    case measure=>simp [intOf];omega
   | true =>
    have HH:=Hd (slotTo_yes hh);rw [hh] at A;clear hh;go_wp2_with fail;refine A.out.mono ?_;rintro e w' ⟨rfl,n,rfl⟩
    go_wp2_with (at_builtin;refine wpList_app1 (n:=(k:Int)+1) rfl _ _ rfl (IntsAt.same HL.out ?_) (by rfl) (by rfl) ?_ hle ?_)
    ·exact (by (repeat (first | with_reducible exact Ch.refl _ _ | (with_reducible refine Ch.alloc ?_ _) | (with_reducible refine Ch.drew ?_) | (with_reducible refine Ch.drewN ?_ _))))
    ·exact cell_at1 _ _ rfl
    ·intro v' w1 h1 hc1
     replace h1:=Hd (h1.mono (New.plus (w:=w) (by simp;omega)))
     replace hc1:=Hd (New.below HB.out ((show Ch (New w) wr _ from (by (repeat (first | with_reducible exact Ch.refl _ _ | (with_reducible refine Ch.alloc ?_ _) | (with_reducible refine Ch.drew ?_) | (with_reducible refine Ch.drewN ?_ _))))).trans hc1))
     clear HL HB;go_wp2;go_roundw
     case rel=>exact ⟨k+1,by go_num,hlt,Hd (by rw [HH.out];exact h1.out),hc1⟩
     case measure=>simp [intOf];omega
  ·have:k=most:=by omega
   subst this;go_wp2;go_returns
   exact ⟨⟨_,rfl,HL.out⟩,HB.out⟩
section
section
variable {P : Program} {ops : Array Oper} {md : Region.Mode} {C : World → Prop}
def heads (P:Program) (md:Region.Mode) (ops:Array Oper) (C:World→Prop) (n:Nat) (L:Array Bool→Act→Prop):Nat→Array Bool→Act→Prop
 | 0,listed,a=>L listed a
 | f+1,listed,a=>Region.ready md ops listed≠[]∧∀ i∈Region.ready md ops listed,i < n∧qOp P ops C i (heads P md ops C n L f (listed.setIfInBounds i true)) a
theorem any_of_heads {n g:Nat} {L:Array Bool→Act→Prop} {Q:Exit→Act→World→Prop} (hL:∀ listed a w,C w→L listed a→wpAny P md ops Q g listed a w) :
  ∀ (f:Nat) (listed:Array Bool) (a:Act) (w:World),C w→heads P md ops C n L f listed a→wpAny P md ops Q (f+g) listed a w
 | 0,listed,a,w,hw,h=>by rw [Nat.zero_add];exact hL _ _ _ hw h
 | f+1,listed,a,w,hw,h=>by
  rw [show f+1+g=(f+g)+1 by omega]
  exact ⟨fun e=>absurd e h.1,fun i hi=>wpOp_of_qOp hw (fun a' w' hw' h'=>any_of_heads hL f _ a' w' hw' h') (h.2 i hi).2⟩
theorem heads_first {n i:Nat} {oi:Oper} {v:Value} {L:Array Bool→Act→Prop} (hi:ops[i]? = some oi) (hsel:∀ (j:Nat) (o:Oper) cs b,ops[j]? = some o→o.op≠.select cs b)
  (hs:Region.sinkB md ops n=true) (hc:Region.chainB md ops n=true) (hn:n < ops.size) (hin:i < n) (hdone:∀ listed a,L listed a→∀ j∈Region.ready md ops listed,n≤j) :
  ∀ (f:Nat) (listed:Array Bool) (a:Act),HeadInv md ops n listed →
   (∀ j oj,ops[j]? = some oj→j≠i→listed.getD j true=false→(∀ e∈oj.after,Region.binds md e=true→e.on≠i)→oi.apart ops oj=true) →
   i∈Region.ready md ops listed→YieldsIn P ops C oi v a →
   heads P md ops C n L f (listed.setIfInBounds i true) (a.put oi.dst v)→heads P md ops C n L (f+1) listed a:=by
 intro f
 induction f with
 | zero =>
  intro listed a inv _ hr hy H
  have hun:=(mem_ready.1 hr).1
  have hlt:∀ j∈Region.ready md ops listed,j < n:=fun j hj=>by
   rcases Nat.lt_or_ge j n with h | h
   ·exact h
   ·exact absurd hj (tail_waits hs hc hn inv _ i rfl hin hun j h)
  refine ⟨fun e=>(by rw [e] at hr;cases hr),fun j hj=>⟨hlt j hj,?_⟩⟩
  by_cases hji:j=i
  ·subst hji;exact hy.qOp hi H
  ·have h1:=hdone _ _ H j (ready_mono hj hji)
   have h2:=hlt j hj
   omega
 | succ f ih =>
  intro listed a inv hfree hr hy H
  have hun:=(mem_ready.1 hr).1
  have hlt:∀ j∈Region.ready md ops listed,j < n:=fun j hj=>by
   rcases Nat.lt_or_ge j n with h | h
   ·exact h
   ·exact absurd hj (tail_waits hs hc hn inv _ i rfl hin hun j h)
  refine ⟨fun e=>(by rw [e] at hr;cases hr),fun j hj=>⟨hlt j hj,?_⟩⟩
  by_cases hji:j=i
  ·subst hji;exact hy.qOp hi H
  ·have h1:=(H.2 j (ready_mono hj hji)).2
   obtain ⟨hjun,oj,hoj,hall⟩:=mem_ready.1 hj
   have hnot:∀ e∈oj.after,Region.binds md e=true→e.on≠i:=fun e he hb heq=>by
    have h3:=hall e he hb
    rw [heq,getD_both hun] at h3
    cases h3
   have h2:=qOp_put hoj (hfree j oj hoj hji hjun hnot) (fun cs b=>hsel i oi cs b hi) (fun cs b=>hsel j oj cs b hoj) hy h1
   have hfree':∀ k ok,ops[k]? = some ok→k≠i→(listed.setIfInBounds j true).getD k true=false→(∀ e∈ok.after,Region.binds md e=true→e.on≠i)→oi.apart ops ok=true:=fun k ok hk hki hku hno=>by
    refine hfree k ok hk hki ?_ hno
    by_cases hjk:j=k
    ·subst hjk;exact hjun
    ·rw [getD_set_ne true hjk] at hku;exact hku
   refine qOp_mono (fun a' h3=>ih (listed.setIfInBounds j true) a' (inv.set hj (hlt j hj)) hfree' (ready_mono hr (Ne.symm hji)) h3.1 ?_) h2
   rw [Array.setIfInBounds_comm _ _ hji]
   exact h3.2
theorem heads_lex {n g:Nat} {Lq:Act→Prop} (hsel:Region.noSelect ops=true) (hs:Region.sinkB md ops n=true) (hc:Region.chainB md ops n=true) (hn:n < ops.size) :
  ∀ (l:List Oper) (k:Nat) (listed:Array Bool) (a:Act),(∀ j,j < l.length→l[j]? = ops[k+j]?)→k+l.length=n→HeadInv md ops n listed →
  Region.lexHead md ops g l.length k listed=true→wpQuiet P ops C Lq l a →
  heads P md ops C n (fun listed' a'=>Region.seqB md ops g n listed'=true∧Lq a') l.length listed a
 | [],k,listed,a,_,hk,_,hB,h=>by
  have:k=n:=by simpa using hk
  subst this
  exact ⟨by simpa [Region.lexHead] using hB,h⟩
 | o::l,k,listed,a,hl,hk,inv,hB,h=>by
  have h0:ops[k]? = some o:=by simpa using (hl 0 (by simp)).symm
  simp only [List.length_cons,Region.lexHead,Bool.and_eq_true] at hB
  obtain ⟨⟨hr,hf⟩,hB'⟩:=hB
  have hkn:k < n:=by simp only [List.length_cons] at hk;omega
  have hr':k∈Region.ready md ops listed:=by simpa using hr
  have hst:qOp P ops C k (wpQuiet P ops C Lq l) a:=by unfold qOp;simp only [h0];exact h
  obtain ⟨v,hy,hK⟩:=yieldsIn_of_qOp h0 hst
  exact heads_first h0 (Region.noSelect_spec hsel) hs hc hn hkn (fun listed' a' hL=>seqB_ready hL.1) l.length listed a inv (Region.free_spec h0 hf) hr' hy
   (heads_lex hsel hs hc hn l (k+1) _ _ (fun j hj=>by have:=hl (j+1) (by simp;omega);simpa [Nat.add_assoc,Nat.add_comm 1 j] using this) (by simp only [List.length_cons] at hk;omega) (inv.set hr' hkn) hB' hK)
theorem region_tailC {id:Nat} {Q:Exit→Act→World→Prop} {a:Act} {l:List Oper} (n:Nat) (hm:P.follows .mixedOrders=true) (hB:Region.lexTailB .any l.toArray n=true) (hC:C w.drew)
  (h:wpQuiet P l.toArray C (fun a'=>∀ w',C w'→wpList P l.toArray Q (l.drop n) a' w') (l.take n) a):(Code.region id l.toArray true).wp P Q a w:=by
 simp only [Region.lexTailB,Bool.and_eq_true,decide_eq_true_eq] at hB
 obtain ⟨⟨⟨⟨hsel,hn⟩,hs⟩,hc⟩,hlex⟩:=hB
 have hn':n < l.length:=by simpa using hn
 have htl:(l.take n).length=n:=by simp;omega
 have hdl:(l.drop n).length=l.toArray.size - n:=by simp
 have inv0:HeadInv .any l.toArray n (Array.replicate l.toArray.size false) :=
  ⟨by simp,fun j oj _ hl=>(by rw [getD_replicate_false] at hl;cases hl),fun t _ ht=>getD_in (by simpa using ht) (getD_replicate_false _ _)⟩
 have H:=heads_lex (md:=.any) (g:=l.toArray.size - n) hsel hs hc hn (l.take n) 0 _ a (fun j hj=>by
  have hj':j < n:=by rw [htl] at hj;exact hj
  simp [hj']) (by simpa using htl) inv0 (by rw [htl];exact hlex) h
 refine wp_region_any hm ?_
 have:=any_of_heads (Q:=Q) (g:=l.toArray.size - n) (fun listed a' w' hw' hL=>by
  have:=wpAny_of_seq (md:=.any) (Q':=Q) (l.drop n) n listed a' w' (fun j=>by simp [List.getElem?_drop]) (by rw [hdl];exact hL.1) (hL.2 w' hw')
  rwa [hdl] at this) _ _ _ _ hC H
 rw [htl,show n+(l.toArray.size - n)=l.toArray.size by omega] at this
 exact this
end
theorem quiet_left {P:Program} {f:FuncId} {args:Array Value} {n:Nat} {v:Value} (h:Calls P f args (w.drewN n) fun e w'=>e=.returned v∧w.drewN n=w'):Calls P f args (w.drewN n) fun e w''=>e=.returned v∧∃ m,w''=w.drewN m :=
 h.mono fun _ _ ⟨he,hm⟩=>⟨he,n,hm.symm⟩
theorem cls0 (w:World):∃ k,w.drew=w.drewN k:=⟨1,rfl⟩
theorem clsN (w:World) (n:Nat):∃ k,(w.drewN n).drew=w.drewN k:=⟨n+1,rfl⟩
end
def Col (F:Nat→Prop) (c:Nat→Nat) (i:Nat):Nat→Prop:=fun b=>F b∧c b=i
open Classical in
noncomputable def recol (w:World) (c:Nat→Nat) (i:Nat):Nat→Nat:=fun b=>if w.heap.size≤b then i else c b
theorem Col.sub {c:Nat→Nat} {i:Nat}:∀ b,Col F c i b→F b:=fun _ h=>h.1
theorem Col.apart {c:Nat→Nat} {i j:Nat} (h:i≠j):∀ b,Col F c i b→¬ Col F c j b:=fun b hi hj=>h (hi.2.symm.trans hj.2)
theorem Col.lt {c:Nat→Nat} {i:Nat} (hF:∀ b,F b→b < w.heap.size):∀ b,Col F c i b→b < w.heap.size:=fun b h=>hF b h.1
theorem recol_old {c:Nat→Nat} {i b:Nat} (h:b < w.heap.size):recol w c i b=c b:=by unfold recol;rw [if_neg (by omega)]
theorem recol_new {c:Nat→Nat} {i b:Nat} (h:w.heap.size≤b):recol w c i b=i:=by unfold recol;rw [if_pos h]
theorem Col.old {c:Nat→Nat} {i j:Nat} (hF:∀ b,F b→b < w.heap.size):∀ b,Col F c i b→Col (Plus w w' F) (recol w c j) i b:=fun b h=>⟨.inl h.1,(recol_old (hF b h.1)).trans h.2⟩
theorem Col.new {c:Nat→Nat} {i:Nat} (hF:∀ b,F b→b < w.heap.size):∀ b,Plus w w' (Col F c i) b→Col (Plus w w' F) (recol w c i) i b:=fun b h=>h.elim (Col.old hF b) (fun e=>⟨.inr e,recol_new e.1⟩)
theorem Col.ch {c:Nat→Nat} {i:Nat} (h:Ch (Col F c i) w w'):Ch F w w':=h.mono (fun _ _ h=>h.1)
theorem Col.kept {c:Nat→Nat} {i j:Nat} {R:World→(Nat→Prop)→Prop} (hch:∀ {w w':World} {F G:Nat→Prop},R w F→Ch G w w'→(∀ b,F b→¬ G b)→R w' F) (hmono:∀ {w:World} {F G:Nat→Prop},R w F→(∀ b,F b→G b)→R w G)
  (hF:∀ b,F b→b < w.heap.size) (h:R w (Col F c i)) (hc:Ch (Col F c j) w w') (hne:i≠j):R w' (Col (Plus w w' F) (recol w c j) i):=hmono (hch h hc (Col.apart hne)) (Col.old hF)
def encI (m:List (Int × Int)):List (Int × Value):=m.map fun x=>(x.1,Value.int .i64 x.2)
theorem encI_get (m:List (Int × Int)) (k:Int):mget (encI m) k=(mget m k).map (Value.int .i64):=by
 induction m with
 | nil=>rfl
 | cons x t ih =>
  simp only [encI,List.map_cons,mget] at *
  split
  ·rfl
  ·exact ih
theorem encI_put (m:List (Int × Int)) (k v:Int):mput (encI m) k (.int .i64 v)=encI (mput m k v):=by
 induction m with
 | nil=>rfl
 | cons x t ih =>
  simp only [encI,List.map_cons,mput] at *
  split
  ·rfl
  ·rw [ih];rfl
theorem encI_del (m:List (Int × Int)) (k:Int):mdel (encI m) k=encI (mdel m k):=by
 induction m with
 | nil=>rfl
 | cons x t ih =>
  simp only [encI,List.map_cons,mdel] at *
  split
  ·rfl
  ·rw [ih];rfl
def IMapAt (w:World) (b:Nat) (m:List (Int × Int)):Prop:=MapAt w b (encI m)
theorem IMapAt.ch {b:Nat} {m:List (Int × Int)} (h:IMapAt w b m) (hc:Ch F w w') (hF:¬ F b):IMapAt w' b m:=MapAt.ch h hc hF
theorem IMapAt.put {b:Nat} {m:List (Int × Int)} (h:IMapAt w b m) (k v:Int):IMapAt (mapPut w b k (.int .i64 v)) b (mput m k v):=by
 have:=MapAt.put h k (.int .i64 v)
 rwa [encI_put] at this
theorem IMapAt.del {b:Nat} {m:List (Int × Int)} (h:IMapAt w b m) (k:Int):IMapAt (mapDel w b k) b (mdel m k):=by
 have:=MapAt.del h k
 rwa [encI_del] at this
theorem zero3 (w:World):(zeroValue 3).run prog w=.ok (.int .i64 0) w:=by kernel_rfl
theorem opt_get (x:Option Int):(x.map (Value.int .i64)).getD (.int .i64 0)=.int .i64 (x.getD 0):=by cases x <;> rfl
theorem IMapAt.look {P:Program} {b:Nat} {m:List (Int × Int)} (h:IMapAt w b m) {T K E:TypeId} (hT:P.underlying T=some (.map K E)) (hK:P.underlying K=some (.int .i64)) (hz:(zeroValue E).run P w=.ok (.int .i64 0) w) (k:Int) :
  (Instr.lookup T (.map (some b)) (.int .i64 k) true).run P w=.ok (.tuple #[.int .i64 ((mget m k).getD 0),.bool (mget m k).isSome]) w:=by
 have:=run_look (P:=P) h hT hK _ hz k true
 rw [encI_get] at this;rw [if_pos rfl,opt_get,Option.isSome_map] at this
 exact this
theorem IMapAt.look1 {P:Program} {b:Nat} {m:List (Int × Int)} (h:IMapAt w b m) {T K E:TypeId} (hT:P.underlying T=some (.map K E)) (hK:P.underlying K=some (.int .i64)) (hz:(zeroValue E).run P w=.ok (.int .i64 0) w) (k:Int) :
  (Instr.lookup T (.map (some b)) (.int .i64 k) false).run P w=.ok (.int .i64 ((mget m k).getD 0)) w:=by
 have:=run_look (P:=P) h hT hK _ hz k false
 rw [encI_get] at this;rw [if_neg (by decide),opt_get] at this
 exact this
theorem IMapAt.mlen {P:Program} {b:Nat} {m:List (Int × Int)} (h:IMapAt w b m) {T K E:TypeId} (hT:P.underlying T=some (.map K E)) (ty:TypeId) :
  (Builtin.len_ #[T] ty #[.map (some b)]).run P w=.ok (.int .i64 (m.length:Nat)) w:=by
 have:=run_mlen (P:=P) h hT ty
 have e:(encI m).length=m.length:=by simp [encI]
 rwa [e] at this
theorem mput_get {α:Type} (m:List (Int × α)) (k:Int) (v:α) (j:Int):mget (mput m k v) j=if k=j then some v else mget m j:=by
 induction m with
 | nil=>simp [mput,mget]
 | cons x t ih =>
  by_cases h:x.1=k
  ·simp only [mput,h,if_true,mget]
   by_cases hj:k=j
   ·simp [hj]
   ·simp [hj]
  ·simp only [mput,h,if_false,mget,ih]
   by_cases hj:x.1=j
   ·have:k≠j:=fun e=>h (hj.trans e.symm)
    simp [hj,this]
   ·simp [hj]
theorem mem_mput {α:Type} {m:List (Int × α)} {k:Int} {v:α} {x:Int × α} (h:x∈mput m k v):x=(k,v)∨x∈m:=by
 induction m with
 | nil=>simpa [mput] using h
 | cons y t ih =>
  simp only [mput] at h
  split at h
  ·rcases List.mem_cons.1 h with h | h
   ·exact .inl h
   ·exact .inr (List.mem_cons_of_mem _ h)
  ·rcases List.mem_cons.1 h with h | h
   ·exact .inr (h ▸ List.mem_cons_self)
   ·exact (ih h).imp id (List.mem_cons_of_mem _)
theorem mem_mdel {α:Type} {m:List (Int × α)} {k:Int} {x:Int × α} (h:x∈mdel m k):x∈m:=by
 induction m with
 | nil=>exact h
 | cons y t ih =>
  simp only [mdel] at h
  split at h
  ·exact List.mem_cons_of_mem _ h
  ·rcases List.mem_cons.1 h with h | h
   ·exact h ▸ List.mem_cons_self
   ·exact List.mem_cons_of_mem _ (ih h)
theorem mget_mem {α:Type} {m:List (Int × α)} {k:Int} {v:α} (h:mget m k=some v):(k,v)∈m:=by
 induction m with
 | nil=>cases h
 | cons y t ih =>
  simp only [mget] at h
  split at h
  ·rename_i e;cases h;rw [← e];exact List.mem_cons_self
  ·exact List.mem_cons_of_mem _ (ih h)
section
structure Ownable {S:Type} (R:World→(Nat→Prop)→Nat→S→Prop):Prop where
 ch:∀ {w w':World} {F G:Nat→Prop} {p:Nat} {s:S},R w F p s→Ch G w w'→(∀ b,F b→¬ G b)→R w' F p s
 mono:∀ {w:World} {F G:Nat→Prop} {p:Nat} {s:S},R w F p s→(∀ b,F b→G b)→(∀ b,G b→b < w.heap.size)→R w G p s
def ptrL (ptrs:Nat→Nat) (n:Nat):List Value:=(List.range n).map fun i=>.pointer (some ⟨ptrs i,0,none⟩)
theorem ptrL_get {ptrs:Nat→Nat} {n j:Nat} (h:j < n):(ptrL ptrs n)[j]? = some (.pointer (some ⟨ptrs j,0,none⟩)):=by simp [ptrL,h]
theorem ptrL_succ (ptrs:Nat→Nat) (k x:Nat):ptrL (fun i=>if i=k then x else ptrs i) (k+1)=ptrL ptrs k++[.pointer (some ⟨x,0,none⟩)]:=by
 unfold ptrL;rw [List.range_succ,List.map_append]
 simp only [List.map_cons,List.map_nil,if_true]
 congr 1
 apply List.map_congr_left
 intro i hi
 have:i≠k:=by have:=List.mem_range.1 hi;omega
 simp [this]
theorem plus0_lt:∀ b,Plus w w' (fun _=>False) b→b < w'.heap.size:=fun b hb=>hb.elim (fun h=>h.elim) (fun h=>h.2)
theorem getD_set_same {α:Type} {l:List α} {i:Nat} {x d:α} (h:i < l.length):(l.set i x).getD i d=x:=by rw [List.getD_eq_getElem?_getD,List.getElem?_set_self h];rfl
theorem getD_set_other {α:Type} {l:List α} {i j:Nat} {x d:α} (h:j≠i):(l.set i x).getD j d=l.getD j d:=by rw [List.getD_eq_getElem?_getD,List.getElem?_set_ne (Ne.symm h),List.getD_eq_getElem?_getD]
section
variable {S : Type} {R : World → (Nat → Prop) → Nat → S → Prop}
def Many (R:World→(Nat→Prop)→Nat→S→Prop) (w:World) (F:Nat→Prop) (c:Nat→Nat) (base:Nat) (ptrs:Nat→Nat) (d:S) (l:List S):Prop:=∀ i,i < l.length→R w (Col F c (base+i)) (ptrs i) (l.getD i d)
theorem Many.ch (hR:Ownable R) {F G:Nat→Prop} {c:Nat→Nat} {base:Nat} {ptrs:Nat→Nat} {d:S} {l:List S} (h:Many R w F c base ptrs d l) (hc:Ch G w w') (hd:∀ b,F b→¬ G b):Many R w' F c base ptrs d l:=fun i hi=>hR.ch (h i hi) hc (fun b hb=>hd b hb.1)
theorem Many.ch' (hR:Ownable R) {F G:Nat→Prop} {c:Nat→Nat} {base:Nat} {ptrs:Nat→Nat} {d:S} {l:List S} (h:Many R w F c base ptrs d l) (hc:Ch G w w') (hd:∀ i,i < l.length→∀ b,Col F c (base+i) b→¬ G b):Many R w' F c base ptrs d l:=fun i hi=>hR.ch (h i hi) hc (hd i hi)
theorem Many.mono (hR:Ownable R) {F G:Nat→Prop} {c:Nat→Nat} {base:Nat} {ptrs:Nat→Nat} {d:S} {l:List S} (h:Many R w F c base ptrs d l) (hd:∀ b,F b→G b) (hG:∀ b,G b→b < w.heap.size):Many R w G c base ptrs d l:=fun i hi=>hR.mono (h i hi) (fun b hb=>⟨hd b hb.1,hb.2⟩) (fun b hb=>hG b hb.1)
theorem Many.turn (hR:Ownable R) {c:Nat→Nat} {base:Nat} {ptrs:Nat→Nat} {d:S} {l:List S} (h:Many R w F c base ptrs d l) (hF:∀ b,F b→b < w.heap.size) {i:Nat} (hi:i < l.length) {q:S} (hq:R w' (Plus w w' (Col F c (base+i))) (ptrs i) q) (hc:Ch (Col F c (base+i)) w w'):Many R w' (Plus w w' F) (recol w c (base+i)) base ptrs d (l.set i q):=by
 have hG:∀ b,Plus w w' F b→b < w'.heap.size:=Plus.lt hF hc.size
 intro j hj
 have hj':j < l.length:=by simpa using hj
 by_cases e:j=i
 ·subst e
  rw [getD_set_same hi]
  exact hR.mono hq (Col.new hF) (fun b hb=>hG b hb.1)
 ·rw [getD_set_other e]
  exact hR.mono (hR.ch (h j hj') hc (Col.apart (by omega))) (Col.old hF) (fun b hb=>hG b hb.1)
theorem Many.other (hR:Ownable R) {c:Nat→Nat} {base:Nat} {ptrs:Nat→Nat} {d:S} {l:List S} (h:Many R w F c base ptrs d l) (hF:∀ b,F b→b < w.heap.size) {j:Nat} (hj:j < base) (hc:Ch (Col F c j) w w'):Many R w' (Plus w w' F) (recol w c j) base ptrs d l:=fun i hi =>
 hR.mono (hR.ch (h i hi) hc (Col.apart (by omega))) (Col.old hF) (fun b hb=>Plus.lt hF hc.size b hb.1)
structure Multi (S:Type) where
 ids:Slot
 l:List S
 wh:List (Int × Int)
structure MultiQ (R:World→(Nat→Prop)→Nat→S→Prop) (HT ET most:Nat) (lo:Int) (d:S) (w:World) (F:Nat→Prop) (p sp wb:Nat) (rv:Value) (ptrs c:Nat→Nat) (m:Multi S):Prop where
 head:Blk w p #[.pointer (some ⟨sp,0,none⟩),rv,.map (some wb)] HT
 ids:SlotAt w (Col F c 0) sp most m.ids
 row:RowAt w (Col F c 1) ET 1 rv m.l.length (ptrL ptrs m.l.length)
 map:IMapAt w wb m.wh
 fm:Col F c 2 wb
 fp:Col F c 3 p
 lt:∀ b,F b→b < w.heap.size
 ls:Many R w F c 10 ptrs d m.l
 n1:1≤m.l.length
 n64:m.l.length≤65
 ok:∀ x∈m.wh,lo≤x.2∧x.2 < lo+m.l.length
def MultiAt (R:World→(Nat→Prop)→Nat→S→Prop) (HT ET most:Nat) (lo:Int) (d:S) (w:World) (F:Nat→Prop) (p:Nat) (m:Multi S):Prop:=∃ sp wb rv ptrs c,MultiQ R HT ET most lo d w F p sp wb rv ptrs c m
variable {HT ET most : Nat} {lo : Int} {d : S}
theorem MultiQ.at {p sp wb:Nat} {rv:Value} {ptrs c:Nat→Nat} {m:Multi S} (h:MultiQ R HT ET most lo d w F p sp wb rv ptrs c m):MultiAt R HT ET most lo d w F p m:=⟨sp,wb,rv,ptrs,c,h⟩
theorem MultiQ.ch (hR:Ownable R) {F G:Nat→Prop} {p sp wb:Nat} {rv:Value} {ptrs c:Nat→Nat} {m:Multi S} (h:MultiQ R HT ET most lo d w F p sp wb rv ptrs c m) (hc:Ch G w w') (hd:∀ b,F b→¬ G b):MultiQ R HT ET most lo d w' F p sp wb rv ptrs c m :=
 ⟨h.head.ch hc (hd _ h.fp.1),h.ids.ch hc (fun b hb=>hd b hb.1),h.row.ch hc (fun b hb=>hd b hb.1),h.map.ch hc (hd _ h.fm.1),h.fm,h.fp,fun b hb=>Nat.lt_of_lt_of_le (h.lt b hb) hc.size,h.ls.ch hR hc hd,h.n1,h.n64,h.ok⟩
theorem MultiAt.ch (hR:Ownable R) {F G:Nat→Prop} {m:Multi S} (h:MultiAt R HT ET most lo d w F p m) (hc:Ch G w w') (hd:∀ b,F b→¬ G b):MultiAt R HT ET most lo d w' F p m:=by
 obtain ⟨sp,wb,rv,ptrs,c,h⟩:=h
 exact (h.ch hR hc hd).at
theorem MultiAt.below (hR:Ownable R) {m:Multi S} (h:MultiAt R HT ET most lo d w F p m) (hb:Below w.heap.size w w'):MultiAt R HT ET most lo d w' F p m:=h.ch hR (Ch.off hb) (fun _ _ h=>h)
theorem MultiAt.ltF {m:Multi S} (h:MultiAt R HT ET most lo d w F p m):∀ b,F b→b < w.heap.size:=by
 obtain ⟨sp,wb,rv,ptrs,c,h⟩:=h
 exact h.lt
theorem MultiAt.mono (hR:Ownable R) {F G:Nat→Prop} {m:Multi S} (h:MultiAt R HT ET most lo d w F p m) (hd:∀ b,F b→G b) (hG:∀ b,G b→b < w.heap.size):MultiAt R HT ET most lo d w G p m:=by
 obtain ⟨sp,wb,rv,ptrs,c,h⟩:=h
 exact ⟨sp,wb,rv,ptrs,c,h.head,h.ids.mono (fun b hb=>⟨hd b hb.1,hb.2⟩),h.row.mono (fun b hb=>⟨hd b hb.1,hb.2⟩),h.map,⟨hd _ h.fm.1,h.fm.2⟩,⟨hd _ h.fp.1,h.fp.2⟩,hG,h.ls.mono hR hd hG,h.n1,h.n64,h.ok⟩
theorem MultiQ.open {p sp wb:Nat} {rv:Value} {ptrs c:Nat→Nat} {m:Multi S} (h:MultiQ R HT ET most lo d w F p sp wb rv ptrs c m):∃ g cap,rv=.slice (some ⟨g,0,none⟩) m.l.length cap∧m.l.length≤cap∧∀ j,j < m.l.length→w.cell? ⟨g,j,none⟩=some (.pointer (some ⟨ptrs j,0,none⟩)):=by
 obtain ⟨g,cap,h1,h2,_,_,_,h3,_⟩:=h.row.open h.n1
 exact ⟨g,cap,h1,h2,fun j hj=>h3 j _ (ptrL_get hj)⟩
theorem MultiQ.turn (hR:Ownable R) {p sp wb:Nat} {rv:Value} {ptrs c:Nat→Nat} {m:Multi S} (h:MultiQ R HT ET most lo d w F p sp wb rv ptrs c m) {i:Nat} (hi:i < m.l.length) {q:S} (hq:R w' (Plus w w' (Col F c (10+i))) (ptrs i) q) (hc:Ch (Col F c (10+i)) w w'):MultiQ R HT ET most lo d w' (Plus w w' F) p sp wb rv ptrs (recol w c (10+i)) ⟨m.ids,m.l.set i q,m.wh⟩:=by
 refine ⟨h.head.ch hc (Col.apart (by omega) _ h.fp),(h.ids.ch hc (Col.apart (by omega))).mono (Col.old h.lt),?_,h.map.ch hc (Col.apart (by omega) _ h.fm),Col.old h.lt _ h.fm,Col.old h.lt _ h.fp,Plus.lt h.lt hc.size,h.ls.turn hR h.lt hi hq hc,by simpa using h.n1,by simpa using h.n64,by simpa using h.ok⟩
 simp only [List.length_set]
 exact (h.row.ch hc (Col.apart (by omega))).mono (Col.old h.lt)
theorem MultiQ.turnIds (hR:Ownable R) {p sp wb:Nat} {rv:Value} {ptrs c:Nat→Nat} {m:Multi S} (h:MultiQ R HT ET most lo d w F p sp wb rv ptrs c m) {s:Slot} (hs:SlotAt w' (Plus w w' (Col F c 0)) sp most s) (hc:Ch (Col F c 0) w w'):MultiQ R HT ET most lo d w' (Plus w w' F) p sp wb rv ptrs (recol w c 0) ⟨s,m.l,m.wh⟩ :=
 ⟨h.head.ch hc (Col.apart (by omega) _ h.fp),hs.mono (Col.new h.lt),(h.row.ch hc (Col.apart (by omega))).mono (Col.old h.lt),h.map.ch hc (Col.apart (by omega) _ h.fm),Col.old h.lt _ h.fm,Col.old h.lt _ h.fp,Plus.lt h.lt hc.size,h.ls.other hR h.lt (by omega) hc,h.n1,h.n64,h.ok⟩
theorem MultiQ.put (hR:Ownable R) {p sp wb:Nat} {rv:Value} {ptrs c:Nat→Nat} {m:Multi S} (h:MultiQ R HT ET most lo d w F p sp wb rv ptrs c m) (k v:Int) (hv:lo≤v∧v < lo+m.l.length):MultiQ R HT ET most lo d (mapPut w wb k (.int .i64 v)) F p sp wb rv ptrs c ⟨m.ids,m.l,mput m.wh k v⟩:=by
 have hc:Ch (Col F c 2) w (mapPut w wb k (.int .i64 v)):=(Ch.refl _ w).mapPut (fun _=>h.fm) k _
 exact ⟨h.head.ch hc (Col.apart (by omega) _ h.fp),h.ids.ch hc (Col.apart (by omega)),h.row.ch hc (Col.apart (by omega)),h.map.put k v,h.fm,h.fp,fun b hb=>by simpa using h.lt b hb,h.ls.ch' hR hc (fun i hi=>Col.apart (by omega)),h.n1,h.n64,fun x hx=>(mem_mput hx).elim (fun e=>by subst e;exact hv) (h.ok x)⟩
theorem MultiQ.del (hR:Ownable R) {p sp wb:Nat} {rv:Value} {ptrs c:Nat→Nat} {m:Multi S} (h:MultiQ R HT ET most lo d w F p sp wb rv ptrs c m) (k:Int):MultiQ R HT ET most lo d (mapDel w wb k) F p sp wb rv ptrs c ⟨m.ids,m.l,mdel m.wh k⟩:=by
 have hc:Ch (Col F c 2) w (mapDel w wb k):=(Ch.refl _ w).mapDel (fun _=>h.fm) k
 exact ⟨h.head.ch hc (Col.apart (by omega) _ h.fp),h.ids.ch hc (Col.apart (by omega)),h.row.ch hc (Col.apart (by omega)),h.map.del k,h.fm,h.fp,fun b hb=>by simpa using h.lt b hb,h.ls.ch' hR hc (fun i hi=>Col.apart (by omega)),h.n1,h.n64,fun x hx=>h.ok x (mem_mdel hx)⟩
end
end
def ringL (ring:List Int) (first many:Nat):List Int:=(List.range many).map fun i=>ring.getD ((first+i) % ring.length) 0
theorem ringL_len (ring:List Int) (first many:Nat):(ringL ring first many).length=many:=by simp [ringL]
theorem ringL_get {ring:List Int} {first many i:Nat} (hi:i < many):(ringL ring first many)[i]? = some (ring.getD ((first+i) % ring.length) 0):=by simp [ringL,hi]
theorem ringL_succ (ring:List Int) (first many:Nat):ringL ring first (many+1)=ringL ring first many++[ring.getD ((first+many) % ring.length) 0]:=by
 unfold ringL;rw [List.range_succ,List.map_append]
 rfl
theorem ext_get {l m:List Int} (hl:l.length=m.length) (h:∀ i,i < l.length→l[i]? = m[i]?):l=m:=by
 apply List.ext_getElem? 
 intro i
 by_cases hi:i < l.length
 ·exact h i hi
 ·rw [List.getElem?_eq_none (by omega),List.getElem?_eq_none (by omega)]
theorem ringL_push {ring:List Int} {first many:Nat} (hf:first < ring.length) (hm:many < ring.length) (n:Int) :
  ringL (ring.set ((first+many) % ring.length) n) first (many+1)=ringL ring first many++[n]:=by
 have hL:0 < ring.length:=by omega
 have hp:(first+many) % ring.length < ring.length:=Nat.mod_lt _ hL
 rw [ringL_succ,List.length_set]
 congr 1
 ·apply ext_get
  ·simp [ringL_len]
  ·intro i hi
   rw [ringL_len] at hi;rw [ringL_get hi,ringL_get hi,List.length_set]
   congr 1
   rw [List.getD_eq_getElem?_getD,List.getD_eq_getElem?_getD,List.getElem?_set_ne]
   intro e
   have h1:(first+many) % ring.length=if first+many < ring.length then first+many else first+many - ring.length:=by
    split
    ·exact Nat.mod_eq_of_lt (by assumption)
    ·rw [Nat.mod_eq_sub_mod (by omega),Nat.mod_eq_of_lt (by omega)]
   have h2:(first+i) % ring.length=if first+i < ring.length then first+i else first+i - ring.length:=by
    split
    ·exact Nat.mod_eq_of_lt (by assumption)
    ·rw [Nat.mod_eq_sub_mod (by omega),Nat.mod_eq_of_lt (by omega)]
   rw [h1,h2] at e
   split at e <;> split at e <;> omega
 ·congr 1
  rw [List.getD_eq_getElem?_getD,List.getElem?_set_self hp]
  rfl
theorem ringL_pop {ring:List Int} {first many:Nat} (hf:first < ring.length):ringL ring first (many+1)=ring.getD first 0::ringL ring ((first+1) % ring.length) many:=by
 unfold ringL;rw [List.range_succ_eq_map,List.map_cons,List.map_map]
 congr 1
 ·rw [Nat.add_zero,Nat.mod_eq_of_lt hf]
 ·apply List.map_congr_left
  intro i _
  show ring.getD ((first+(i+1)) % ring.length) 0=ring.getD (((first+1) % ring.length+i) % ring.length) 0
  congr 1
  rw [Nat.mod_add_mod]
  congr 1
  omega
theorem ringL_split {ring:List Int} {first many:Nat} (hf:first < ring.length) (hm:many≤ring.length) :
  ringL ring first many=(ring.drop first).take many++ring.take (many - (ring.length - first)):=by
 apply ext_get
 ·simp [ringL_len];omega
 ·intro i hi
  rw [ringL_len] at hi;rw [ringL_get hi]
  by_cases h:i < ring.length - first
  ·rw [List.getElem?_append_left (by simp;omega),List.getElem?_take_of_lt hi,List.getElem?_drop,Nat.mod_eq_of_lt (by omega),List.getD_eq_getElem?_getD,List.getElem?_eq_getElem (by omega)]
   rfl
  ·rw [List.getElem?_append_right (by simp;omega),List.getElem?_take_of_lt (by simp;omega),Nat.mod_eq_sub_mod (by omega),Nat.mod_eq_of_lt (by omega),List.getD_eq_getElem?_getD]
   rw [show i - (List.take many (List.drop first ring)).length=first+i - ring.length by simp;omega,List.getElem?_eq_getElem (by omega)]
   rfl
def pushF (most:Nat) (l:List Int) (n:Int):List Int × Int:=if n∈l then (l,6) else if l.length=most then (l,5) else (l++[n],0)
def frontF (l:List Int):Int × Int:=match l with | []=>(0,12) | x::_=>(x,0)
def popF (l:List Int):List Int × Int × Int:=match l with | []=>([],0,12) | x::t=>(t,x,0)
def dropF (l:List Int) (n:Int):List Int × Int:=if n∈l then (l.erase n,0) else (l,4)
def turnF (most:Nat) (l:List Int):List Int × Int:=match l with | []=>([],12) | x::t=>pushF most t x
theorem mod_ne {first i j len many:Nat} (hf:first < len) (hm:many≤len) (hi:i < many) (hj:j < many) (hne:i≠j):(first+i) % len≠(first+j) % len:=by
 intro e
 have h1:∀ x,x < len→(first+x) % len=if first+x < len then first+x else first+x - len:=fun x hx=>by
  split
  ·exact Nat.mod_eq_of_lt (by assumption)
  ·rw [Nat.mod_eq_sub_mod (by omega),Nat.mod_eq_of_lt (by omega)]
 rw [h1 i (by omega),h1 j (by omega)] at e
 split at e <;> split at e <;> omega
def Mid (ring:List Int) (first many k i:Nat) (l:List Int):Prop:=∀ j,j < many→ring.getD ((first+j) % ring.length) 0=if k≤j∧j < i then l.getD (j+1) 0 else l.getD j 0
theorem Mid.start {ring:List Int} {first many k:Nat}:Mid ring first many k k (ringL ring first many):=fun j hj=>by
 rw [if_neg (by omega),List.getD_eq_getElem?_getD,List.getD_eq_getElem?_getD,ringL_get hj]
 simp [List.getD_eq_getElem?_getD]
theorem Mid.step {ring:List Int} {first many k i:Nat} {l:List Int} (h:Mid ring first many k i l) (hf:first < ring.length) (hm:many≤ring.length) (hi:i+1 < many) (hk:k≤i):Mid (ring.set ((first+i) % ring.length) (l.getD (i+1) 0)) first many k (i+1) l:=fun j hj=>by
 rw [List.length_set]
 have hp:(first+i) % ring.length < ring.length:=Nat.mod_lt _ (by omega)
 by_cases e:i=j
 ·subst e
  rw [if_pos (by omega),List.getD_eq_getElem?_getD,List.getElem?_set_self hp]
  rfl
 ·have:=mod_ne hf hm (show i < many by omega) hj e
  rw [List.getD_eq_getElem?_getD,List.getElem?_set_ne this,← List.getD_eq_getElem?_getD,h j hj]
  by_cases hc:k≤j∧j < i
  ·rw [if_pos hc,if_pos (by omega)]
  ·rw [if_neg hc,if_neg (by omega)]
theorem Mid.done {ring:List Int} {first k m:Nat} {l:List Int} (h:Mid ring first (m+1) k m l) (hl:l.length=m+1) (hk:k≤m):ringL ring first m=l.eraseIdx k:=by
 apply ext_get
 ·rw [ringL_len,List.length_eraseIdx];simp [hl];omega
 ·intro j hj
  rw [ringL_len] at hj;rw [ringL_get hj,h j (by omega),List.getElem?_eraseIdx]
  by_cases hc:j < k
  ·rw [if_pos hc,if_neg (by omega),List.getD_eq_getElem?_getD,List.getElem?_eq_getElem (by omega)];rfl
  ·rw [if_neg hc,if_pos (by omega),List.getD_eq_getElem?_getD,List.getElem?_eq_getElem (by omega)];rfl
theorem ints_contains (w:World) {v:Value} {l:List Int} (h:IntsAt w F v l) (x:Int):Calls prog 291 #[v,.int .i64 x] w fun e w'=>e=.returned (.bool (l.contains x))∧w=w':=by
 by_cases hl:0 < l.length
 ·obtain ⟨g,cap,rfl,h1,h2,h3,h4,h5,h6⟩:=h.open hl
  have hm:=h.len
  have:=slices_Contains_int g 0 l.length cap l x w (Nat.le_refl _) (by unfold maxLen at hm;omega) (fun j hj=>by rw [Nat.zero_add];exact h5 j hj)
  rw [List.take_length] at this
  exact this.mono fun _ _ h=>⟨h.1,h.2.symm⟩
 ·have hn:l=[]:=List.eq_nil_of_length_eq_zero (by omega)
  subst hn;obtain ⟨base,cap,rfl⟩:=h.form
  exact (slices_Contains_int_empty base cap x w).mono fun _ _ h=>⟨h.1,h.2.symm⟩
theorem ints_index (w:World) {v:Value} {l:List Int} (h:IntsAt w F v l) (x:Int):Calls prog 329 #[v,.int .i64 x] w fun e w'=>e=.returned (.int .i64 (Lib.idxOf l x))∧w=w':=by
 by_cases hl:0 < l.length
 ·obtain ⟨g,cap,rfl,h1,h2,h3,h4,h5,h6⟩:=h.open hl
  have hm:=h.len
  have:=slices_Index_int g 0 l.length cap l x w (Nat.le_refl _) (by unfold maxLen at hm;omega) (fun j hj=>by rw [Nat.zero_add];exact h5 j hj)
  rw [List.take_length] at this
  exact this.mono fun _ _ h=>⟨h.1,h.2.symm⟩
 ·have hn:l=[]:=List.eq_nil_of_length_eq_zero (by omega)
  subst hn;obtain ⟨base,cap,rfl⟩:=h.form
  exact (slices_Index_int_empty base cap x w).mono fun _ _ h=>⟨h.1,h.2.symm⟩
theorem ints_of_owns {v:Value} {n:Nat} {l:List Int} (h:w'.ownsRow w.heap.size 3 1 v n (l.map (Value.int .i64))):IntsAt w' (New w) v l:=by
 have hn:n=l.length:=by have:=h.1;simpa using this.symm
 subst hn;obtain ⟨h1,h2⟩:=h
 rcases h2 with ⟨rfl,h0⟩ | ⟨g,cap,cur,rfl,hb,hg,hn,hc,hs,ht⟩
 ·have:l=[]:=List.eq_nil_of_length_eq_zero h0
  subst this
  exact IntsAt.nil _ _
 ·exact RowAt.of_blk hg hb h1 hn hc (by omega) ht
theorem ints_empty {w : World} {F : Nat → Prop} {v : Value} (h : IntsAt w F v []) (hv : v ≠ .slice none 0 0) : ∃ a cap, v = .slice (some a) 0 cap := by
  obtain ⟨h1, base, cap, h2, h3, h4, h5⟩ := h
  cases base with
  | none => rcases h5 with ⟨_, h⟩ | ⟨g, cs, h, _⟩
            · exact absurd (h rfl) hv
            · cases h
  | some a => exact ⟨a, cap, h2⟩
theorem ints_clone (w:World) {v:Value} {l:List Int} (h:IntsAt w F v l) (hl8:l.length≤1099511627776):Calls prog 252 #[v] w fun e w'=>(∃ v',e=.returned v'∧IntsAt w' (New w) v' l)∧Below w.heap.size w w':=by
 by_cases hl:0 < l.length
 ·obtain ⟨g,cap,rfl,h1,h2,h3,h4,h5,h6⟩:=h.open hl
  have:=slices_Clone_int g 0 l.length cap l w (Nat.le_refl _) (by omega) (fun j hj=>by rw [Nat.zero_add];exact h5 j hj)
  rw [List.take_length] at this
  exact this.mono fun e w' ⟨v',he,ho,_,hb⟩=>⟨⟨v',he,ints_of_owns ho⟩,hb⟩
 ·have hn:l=[]:=List.eq_nil_of_length_eq_zero (by omega)
  subst hn
  by_cases hv:v=.slice none 0 0
  ·subst hv
   exact (slices_Clone_int_nil 0 0 w).mono fun e w' ⟨he,hw⟩=>by subst hw;exact ⟨⟨_,he,IntsAt.nil _ _⟩,Below.refl _ _⟩
  ·obtain ⟨a,cap,rfl⟩:=ints_empty h hv
   exact (slices_Clone_int_zero a cap w).mono fun e w' ⟨v',he,ho,_,hb⟩=>⟨⟨v',he,ints_of_owns (l:=[]) ho⟩,hb⟩
structure Ring (w:World) (F:Nat→Prop) (p r most:Nat) (ring:List Int) (first many:Nat):Prop where
 head:Blk w p #[.slice (some ⟨r,0,none⟩) most most,.int .i64 first,.int .i64 many] 291
 row:Blk w r (ring.map (Value.int .i64)).toArray 3
 len:ring.length=most
 m0:1≤most
 m1:most≤1024
 f:first < most
 n:many≤most
 ne:p≠r
 fp:F p
 fr:F r
def FifoAt (w:World) (F:Nat→Prop) (p most:Nat) (l:List Int):Prop :=
 ∃ r ring first many,Ring w F p r most ring first many∧ringL ring first many=l
theorem Ring.ch {F G:Nat→Prop} {p r most:Nat} {ring:List Int} {first many:Nat} (h:Ring w F p r most ring first many) (hc:Ch G w w') (hd:∀ b,F b→¬ G b):Ring w' F p r most ring first many :=
 ⟨h.head.ch hc (hd p h.fp),h.row.ch hc (hd r h.fr),h.len,h.m0,h.m1,h.f,h.n,h.ne,h.fp,h.fr⟩
theorem Ring.ch2 {F G:Nat→Prop} {p r most:Nat} {ring:List Int} {first many:Nat} (h:Ring w F p r most ring first many) (hc:Ch G w w') (h1:¬ G p) (h2:¬ G r):Ring w' F p r most ring first many :=
 ⟨h.head.ch hc h1,h.row.ch hc h2,h.len,h.m0,h.m1,h.f,h.n,h.ne,h.fp,h.fr⟩
theorem IntsAt.full {b n:Nat} {l:List Int} (h:Blk w b (l.map (Value.int .i64)).toArray 3) (hn:l.length=n) (hF:F b) (hm:n≤1099511627776):IntsAt w F (.slice (some ⟨b,0,none⟩) n n) l:=by
 subst hn
 exact RowAt.of_blk h hF (by simp) (Nat.le_refl _) (by unfold maxLen;omega) (by simp) (by simp [List.take_of_length_le])
theorem FifoAt.ch {F G:Nat→Prop} {p most:Nat} {l:List Int} (h:FifoAt w F p most l) (hc:Ch G w w') (hd:∀ b,F b→¬ G b):FifoAt w' F p most l:=by
 obtain ⟨r,ring,first,many,hr,hl⟩:=h
 exact ⟨r,ring,first,many,hr.ch hc hd,hl⟩
theorem FifoAt.mono {F G:Nat→Prop} {p most:Nat} {l:List Int} (h:FifoAt w F p most l) (hd:∀ b,F b→G b):FifoAt w G p most l:=by
 obtain ⟨r,ring,first,many,h,hl⟩:=h
 exact ⟨r,ring,first,many,⟨h.head,h.row,h.len,h.m0,h.m1,h.f,h.n,h.ne,hd _ h.fp,hd _ h.fr⟩,hl⟩
theorem FifoAt.below {p most:Nat} {l:List Int} (h:FifoAt w F p most l) (hb:Below w.heap.size w w'):FifoAt w' F p most l:=h.ch (Ch.off hb) (fun _ _ h=>h)
theorem FifoAt.few {p most:Nat} {l:List Int} (h:FifoAt w F p most l):l.length≤most∧most≤1024:=by
 obtain ⟨r,ring,first,many,hr,rfl⟩:=h;rw [ringL_len]
 exact ⟨hr.n,hr.m1⟩
theorem qat_any (w:World) (p r most:Nat) (ring:List Int) (first many:Nat) (h:Ring w F p r most ring first many) (k:Nat) (hk:k≤1024) :
  Calls prog 233 #[.pointer (some ⟨p,0,none⟩),.int .i64 k] w fun e w'=>e=.returned (.int .i64 (((first+k) % most:Nat):Int))∧∃ n,w'=w.drewN n:=by
 have c0:w.cell? ⟨p,0,none⟩=some (.slice (some ⟨r,0,none⟩) most most):=h.head.cell 0
 have c1:w.cell? ⟨p,1,none⟩=some (.int .i64 first):=h.head.cell 1
 have f1:=h.f;have m1:=h.m1;have m0:=h.m0
 have hw:IntKind.i64.wrap ((first:Int)+(k:Int))=(first:Int)+k:=by rw [IntKind.wrap_i64];omega
 clear h
 go_enter func233,ntmps233
 go_wp2;go_quiet (fail);go_wp2;go_returns
 exact ⟨by simp,_,rfl⟩
theorem qlen_any (w:World) (F:Nat→Prop) (p most:Nat) (l:List Int) (h:FifoAt w F p most l):Calls prog 355 #[.pointer (some ⟨p,0,none⟩)] w fun e w'=>e=.returned (.int .i64 l.length)∧w=w':=by
 obtain ⟨r,ring,first,many,hr,rfl⟩:=h
 have c2:w.cell? ⟨p,2,none⟩=some (.int .i64 many):=hr.head.cell 2
 rw [ringL_len];clear hr
 go_enter func355,ntmps355
 go_wp2;go_returns
 exact ⟨rfl,rfl⟩
theorem qfront_any (w:World) (F:Nat→Prop) (p most:Nat) (l:List Int) (h:FifoAt w F p most l):Calls prog 273 #[.pointer (some ⟨p,0,none⟩)] w fun e w'=>e=.returned (.tuple #[.int .i64 (frontF l).1,.int .i64 (frontF l).2])∧∃ n,w'=w.drewN n:=by
 obtain ⟨r,ring,first,many,hr,rfl⟩:=h
 have c0:w.cell? ⟨p,0,none⟩=some (.slice (some ⟨r,0,none⟩) most most):=hr.head.cell 0
 have c1:w.cell? ⟨p,1,none⟩=some (.int .i64 first):=hr.head.cell 1
 have c2:w.cell? ⟨p,2,none⟩=some (.int .i64 many):=hr.head.cell 2
 have f1:=hr.f;have m1:=hr.m1
 have cf:w.cell? ⟨r,first,none⟩=some (.int .i64 (ring.getD first 0)):=by
  rw [hr.row.cell first];have hl:=hr.len
  have:first < ring.length:=by omega
  simp [this]
 cases many with
 | zero =>
  have HF:Hid (frontF (ringL ring first 0)=(0,12)):=Hd rfl
  rw [HF.out];clear hr
  go_enter func273,ntmps273
  go_wp2;go_returns
  exact ⟨rfl,0,rfl⟩
 | succ many =>
  have HF:Hid (frontF (ringL ring first (many+1))=(ring.getD first 0,0)):=Hd (by rw [ringL_pop (by rw [hr.len];exact f1)];rfl)
  rw [HF.out]
  have hm:((many:Int)+1 == 0)=false:=by simpa using (by omega:¬ (many:Int)+1=0)
  clear hr HF;generalize ring.getD first 0=x at *
  go_enter func273,ntmps273
  go_wp2
  try go_quiet (fail)
  try go_wp2
  go_returns
  exact ⟨rfl,_,rfl⟩
theorem region_tail {P:Program} {id:Nat} {Q:Exit→Act→World→Prop} {a:Act} {l:List Oper} (n:Nat) (hm:P.follows .mixedOrders=true) (hB:Region.lexTailB .any l.toArray n=true)
  (h:wpStill P l.toArray w.drew (fun a'=>wpList P l.toArray Q (l.drop n) a' w.drew) (l.take n) a):(Code.region id l.toArray true).wp P Q a w:=wp_region_still_tail n hm hB h
theorem made_len (n:Nat):(madeCells #[Value.int .i64 0] n).toList.length=n:=by simp [madeCells]
theorem splice_all {α:Type} {A cs:List α} {n:Nat} (ha:A.length=n) (hc:cs.length=n):A.take 0++cs++A.drop (0+n)=cs:=by
 rw [List.drop_eq_nil_of_le (by omega)];simp
theorem drop_nil {α:Type} {l:List α} {n:Nat} (h:l.length≤n):l.drop n=[]:=List.drop_eq_nil_of_le h
theorem splice_two {α:Type} {A c1 c2:List α} {n1:Nat} (h1:c1.length=n1) (ha:A.length=n1+c2.length):(A.take 0++c1++A.drop (0+n1)).take n1++c2++(A.take 0++c1++A.drop (0+n1)).drop (n1+c2.length)=c1++c2:=by
 simp only [List.take_zero,List.nil_append,Nat.zero_add]
 rw [List.take_append_of_le_length (by omega),List.take_of_length_le (by omega),drop_nil (l:=c1++_) (by simp;omega),List.append_nil]
theorem blk_copy {g:Nat} {cur:Array Value} {t:TypeId} (hg:Blk w g cur t) (P:Program) (dT sT ty elem:TypeId) (o dLen dCap:Nat) (a:Addr) (sLen sCap:Nat) (cs:List Value)
  (hu:P.underlying dT=some (.slice elem)) (hs:(P.info? elem).map (·.size)=some 1) (hn:cs.length=Nat.min sLen dLen)
  (hsrc:∀ j v,cs[j]? = some v→w.cell? (a.add j)=some v) (hfit:o+cs.length≤cur.size) (h1:∀ v∈cs,v.oneCell'=true) :
  ∃ w',(Builtin.copy_ #[dT,sT] ty #[.slice (some ⟨g,o,none⟩) dLen dCap,.slice (some a) sLen sCap]).run P w=.ok (goInt cs.length) w'∧Blk w' g (cur.toList.take o++cs++cur.toList.drop (o+cs.length)).toArray t∧Ch (fun b=>b=g) w w' :=
 ⟨_,run_copy_row P w dT sT ty elem g o dLen dCap a sLen sCap cur t cs hu hs hg hn hsrc hfit h1,setRow_heap w g cur _ t _ hg,ch_row w g _⟩
theorem make_ints (n:Nat) (hn:n≤65536) (w:World):(Instr.makeSlice 65 (.int .i64 (n:Int)) (.int .i64 (n:Int))).run prog w=.ok (.slice (some ⟨w.heap.size,0,none⟩) n n) (w.alloc (.cells (madeCells #[.int .i64 0] n) 3)):=by
 obtain ⟨i,h1,h2,h3,h4⟩:=info_parts (P:=prog) (e:=3) (z:=.int .i64 0) (size:=1) (bytes:=8) (by kernel_rfl)
 have hr:=run_make (P:=prog) w 65 3 i (.int .i64 0) (by kernel_rfl) h1 h2 .i64 .i64 n n (by omega) (by omega) (by rw [h4];omega) (by omega)
 simp only [Int.toNat_natCast,h3,Nat.mul_one] at hr
 exact hr
theorem qlist_any (w:World) (F:Nat→Prop) (p most:Nat) (l:List Int) (h:FifoAt w F p most l):Calls prog 177 #[.pointer (some ⟨p,0,none⟩)] w fun e w'=>(∃ v,e=.returned v∧IntsAt w' (New w) v l)∧Below w.heap.size w w':=by
 obtain ⟨r,ring,first,many,hr,rfl⟩:=h
 have c0:w.cell? ⟨p,0,none⟩=some (.slice (some ⟨r,0,none⟩) most most):=hr.head.cell 0
 have c1:w.cell? ⟨p,1,none⟩=some (.int .i64 first):=hr.head.cell 1
 have c2:w.cell? ⟨p,2,none⟩=some (.int .i64 many):=hr.head.cell 2
 have f1:=hr.f;have m1:=hr.m1;have hn:=hr.n
 cases many with
 | zero =>
  clear hr
  go_enter func177,ntmps177
  go_wp2
  try go_quiet (fail)
  try go_wp2
  go_returns
  exact ⟨⟨_,rfl,IntsAt.nil _ _⟩,Below.refl _ _⟩
 | succ many' =>
  have hm:(((many'+1:Nat):Int) == 0)=false:=by simpa using (by omega:¬ (many':Int)+1=0)
  generalize many'+1=many at *
  have hmk:=fun W=>make_ints many (by omega) W
  have hr0:=hr;clear hr
  go_enter func177,ntmps177
  go_wp2
  have hg0:Blk (w.alloc (.cells (madeCells #[.int .i64 0] many) 3)) w.heap.size (madeCells #[.int .i64 0] many) 3:=Blk.new _ _ _
  have hr1:=hr0.ch2 ((Ch.refl (fun _=>False) w).alloc (.cells (madeCells #[.int .i64 0] many) 3)) (fun h=>h) (fun h=>h)
  have hb1:Below w.heap.size w (w.alloc (.cells (madeCells #[.int .i64 0] many) 3)):=(Below.refl w.heap.size w).alloc (Nat.le_refl _) _
  have hrg:r < w.heap.size:=hr0.row.lt
  have hpg:p < w.heap.size:=hr0.head.lt
  generalize hgw:w.heap.size=g at *;replace hgw:=Hd hgw;generalize hW:w.alloc (.cells (madeCells #[.int .i64 0] many) 3)=w1 at *;clear hW hmk c0 c1 c2 hr0
  have c0:w1.cell? ⟨p,0,none⟩=some (.slice (some ⟨r,0,none⟩) most most):=hr1.head.cell 0
  have c1:w1.cell? ⟨p,1,none⟩=some (.int .i64 first):=hr1.head.cell 1
  have c2:w1.cell? ⟨p,2,none⟩=some (.int .i64 many):=hr1.head.cell 2
  have f2:first≤most:=by omega
  have f3:¬ most=first:=by omega
  refine region_tail 10 (by kernel_rfl) (by kernel_rfl) ?_
  simp only [List.take_succ_cons,List.take_zero,List.drop_succ_cons,List.drop_zero]
  repeat still_step
  refine wpStill_nil ?_
  have hlen:ring.length=most:=hr1.len
  obtain ⟨w2,hcp,hb2,hc2⟩:=blk_copy hg0.drew prog 65 65 3 3 0 many many ⟨r,first,none⟩ (most - first) (most - first) (((ring.drop first).take many).map (Value.int .i64)) (by kernel_rfl) (by kernel_rfl) (by show _=min (most - first) many;simp [hlen];omega) (by
   intro j v hv
   rw [List.getElem?_map] at hv
   rw [show (⟨r,first,none⟩:Addr).add j=⟨r,first+j,none⟩ from by simp [Addr.add],World.cell?_drew,hr1.row.cell]
   obtain ⟨x,hx,rfl⟩:=Option.map_eq_some_iff.1 hv
   have h1:=take_get rfl hx
   rw [List.getElem?_drop] at h1
   simp [h1]) (by simp [madeCells];omega) (by intro v hv;obtain ⟨x,_,rfl⟩:=List.mem_map.1 hv;rfl)
  have hn1':(List.map (Value.int IntKind.i64) (List.take many (List.drop first ring))).length=min many (most - first):=by simp [hlen]
  generalize hn1:(List.map (Value.int IntKind.i64) (List.take many (List.drop first ring))).length=n1 at *
  have g1:n1≤many:=by omega
  replace hn1':=Hd hn1';go_wp2
  have hr2:Ring w2 F p r most ring first many:=hr1.ch2 ((Ch.refl _ w1).drew.trans hc2) (by show ¬ p=g;omega) (by show ¬ r=g;omega)
  have d0:w2.cell? ⟨p,0,none⟩=some (.slice (some ⟨r,0,none⟩) most most):=hr2.head.cell 0
  clear c0 c1 c2 hcp
  by_cases he:n1=many
  ·have hcq:=run_copy_none (P:=prog) w2.drew 65 65 3 3 (some ⟨g,0,none⟩) (some ⟨r,0,none⟩) 0 0 most most (by kernel_rfl) (by kernel_rfl) (Nat.min_zero _)
   clear g1;subst he
   refine region_tail 7 (by kernel_rfl) (by kernel_rfl) ?_
   simp only [List.take_succ_cons,List.take_zero,List.drop_succ_cons,List.drop_zero]
   repeat still_step
   refine wpStill_nil ?_
   go_wp2;go_returns
   have e1:=hn1'.out
   rw [splice_all (made_len _) hn1] at hb2
   have e2:List.take n1 (List.drop first ring)=ringL ring first n1:=by rw [ringL_split (by omega) (by omega),show n1 - (ring.length - first)=0 by omega];simp
   rw [e2] at hb2
   refine ⟨⟨_,rfl,.full hb2.drew (ringL_len ..) (by unfold New;rw [hgw.out];exact Nat.le_refl _) (by omega)⟩,?_⟩
   rw [hgw.out]
   exact hb1.trans (((Ch.refl _ w1).drew.trans hc2).drew.below (by have:=hg0.lt;omega) (fun k hk e=>by omega))
  ·have g2:¬ many=n1:=fun e=>he e.symm
   obtain ⟨w3,hcq,hb3,hc3⟩:=blk_copy hb2.drew prog 65 65 3 3 n1 (many - n1) (many - n1) ⟨r,0,none⟩ most most ((ring.take (many - n1)).map (Value.int .i64)) (by kernel_rfl) (by kernel_rfl) (by have:=hn1'.out;show _=min most (many - n1);simp [hlen];omega) (by
    intro j v hv
    rw [List.getElem?_map] at hv;rw [show (⟨r,0,none⟩:Addr).add j=⟨r,j,none⟩ from by unfold Addr.add;split <;> simp_all,World.cell?_drew,hr2.row.cell]
    obtain ⟨x,hx,rfl⟩:=Option.map_eq_some_iff.1 hv
    have h1:=take_get rfl hx
    simp [h1]) (by have q1:=hn1'.out;simp [madeCells,hlen];omega) (by intro v hv;obtain ⟨x,_,rfl⟩:=List.mem_map.1 hv;rfl)
   refine region_tail 7 (by kernel_rfl) (by kernel_rfl) ?_
   simp only [List.take_succ_cons,List.take_zero,List.drop_succ_cons,List.drop_zero]
   repeat still_step
   refine wpStill_nil ?_
   go_wp2;go_returns
   have e1:=hn1'.out
   rw [splice_two hn1 (by rw [made_len];simp;omega)] at hb3
   have e2:List.map (Value.int .i64) (List.take many (List.drop first ring))++List.map (Value.int .i64) (List.take (many - n1) ring)=List.map (Value.int .i64) (ringL ring first many):=by rw [ringL_split (by omega) (by omega),List.map_append,show many - (ring.length - first)=many - n1 by omega]
   rw [e2] at hb3
   refine ⟨⟨_,rfl,.full hb3 (ringL_len ..) (by unfold New;rw [hgw.out];exact Nat.le_refl _) (by omega)⟩,?_⟩
   rw [hgw.out]
   exact hb1.trans ((((Ch.refl _ w1).drew.trans hc2).drew.trans hc3).below (by have:=hg0.lt;omega) (fun k hk e=>by omega))
end Go.Proofs.YtiocbpabbjgkhaaGreatDoor
