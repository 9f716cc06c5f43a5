/- Part 10 of the proof: contracts and plain laws, each under the conditions that it names. -/
import Derived.Test.YtiocbpabbjgkhaaGreatDoorPow09
import Derived.LoopN
import Derived.WalkMore
import Derived.Shelf.SlIterI.Nil
import Derived.Ground.GgzProg
import Derived.Test.YtiocbpabbjgkhaaGreatDoorProg
import Derived.Deep.RegionWith
set_option maxRecDepth 100000
set_option maxHeartbeats 20000000
set_option linter.unusedVariables false
set_option linter.unusedSimpArgs false
namespace Go.Proofs.YtiocbpabbjgkhaaGreatDoor
open Go.RowKit Go.Proofs.Tryz
variable {w w' : World} {F : Nat → Prop} {p : Nat}
theorem IrqsAt.all4 {t:Irqs} (h:IrqsAt w F p t) {i:Nat} (hi:i < 16) (y:Irq) (hm:y.mask < top64) :
  IrqsAt ((((w.setCell ⟨p,i*4,none⟩ (.bool y.wanted)).setCell ⟨p,i*4+1,none⟩ (.bool y.masked)).setCell ⟨p,i*4+2,none⟩ (.bool y.pending)).setCell ⟨p,i*4+3,none⟩ (.int .u64 y.mask)) F p ⟨t.all.set i y,t.cpus⟩:=by
 have hx:=h.get hi
 have hl:i < t.all.length:=by rw [h.len];exact hi
 generalize t.all.getD i noIrq=x at hx
 have hm0:x.mask < top64:=h.lm x (List.mem_of_getElem? hx)
 have h0:=h.set hx 0 (by omega) ⟨y.wanted,x.masked,x.pending,x.mask⟩ (.bool y.wanted) rfl hm0
 have h1:=h0.set (get_set hl) 1 (by omega) ⟨y.wanted,y.masked,x.pending,x.mask⟩ (.bool y.masked) rfl hm0
 have h2:=h1.set (get_set (by rw [List.length_set];exact hl)) 2 (by omega) ⟨y.wanted,y.masked,y.pending,x.mask⟩ (.bool y.pending) rfl hm0
 have h3:=h2.set (get_set (by rw [List.length_set,List.length_set];exact hl)) 3 (by omega) y (.int .u64 y.mask) rfl hm
 simp only [set_set] at h3
 exact h3
def irqRequest (t:Irqs) (n:Int) (m:Nat):Irqs × Int :=
 if mayF 16 n≠0 then (t,3) else if (irqAt t n).wanted then (t,6) else if decide (m≠0) && withinF m t.cpus then (irqSet t n (fun _=>⟨true,false,false,m⟩),0) else (t,2)
theorem irequest_any (w:World) {t:Irqs} (h:IrqsAt w F p t) (n:Int) (m:Nat) (hm:m < top64):Calls prog 139 #[.pointer (some ⟨p,0,none⟩),.int .i64 n,.int .u64 m] w fun e w'=>e=.returned (.int .i64 (irqRequest t n m).2)∧IrqsAt w' F p (irqRequest t n m).1∧Ch F w w'∧w'.heap.size=w.heap.size:=by
 unfold irqRequest;have HT:=Hd h
 by_cases hmy:mayF 16 n=0
 ·obtain ⟨i,rfl,hi⟩:=may_yes hmy
  rw [if_neg (by simp [hmy])]
  have A:=Hd (ifind_yes w p i hi i rfl);have R:=Hd (iright_any w h m hm)
  have k0:=h.cell (h.get hi) 0 (by omega)
  have k1:=h.cell (h.get hi) 1 (by omega)
  have k2:=h.cell (h.get hi) 2 (by omega)
  have k3:=h.cell (h.get hi) 3 (by omega)
  have f0:w.frozen? ⟨p,i*4,none⟩=false:=h.head.frozen _
  have f1:w.frozen? ⟨p,i*4+1,none⟩=false:=h.head.frozen _
  have f2:w.frozen? ⟨p,i*4+2,none⟩=false:=h.head.frozen _
  have f3:w.frozen? ⟨p,i*4+3,none⟩=false:=h.head.frozen _
  unfold irqAt irqSet
  simp only [Int.toNat_natCast]
  clear h hmy;generalize t.all.getD i noIrq=x at *;generalize (decide (m≠0) && withinF m t.cpus)=r at *
  simp [irqL] at k0 k1 k2 k3
  cases hw:x.wanted with
  | true =>
   rw [hw] at k0;rw [if_pos rfl];clear hw
   go_enter func139,ntmps139
   go_wp2_with fail;refine A.out.mono ?_;rintro e w1 ⟨rfl,rfl⟩;go_wp2;go_returns
   exact ⟨rfl,HT.out,Ch.refl _ _,rfl⟩
  | false =>
   rw [hw] at k0;rw [if_neg (by simp)];replace hw:=Hd hw
   cases r with
   | false =>
    rw [if_neg (by simp)]
    go_enter func139,ntmps139
    go_wp2_with fail;refine A.out.mono ?_;rintro e w1 ⟨rfl,rfl⟩;go_wp2_with fail;refine R.out.mono ?_;rintro e w1 ⟨rfl,rfl⟩;go_wp2;go_returns
    exact ⟨rfl,HT.out,Ch.refl _ _,rfl⟩
   | true =>
    rw [if_pos rfl]
    go_enter func139,ntmps139
    go_wp2_with fail;refine A.out.mono ?_;rintro e w1 ⟨rfl,rfl⟩;go_wp2_with fail;refine R.out.mono ?_;rintro e w1 ⟨rfl,rfl⟩;go_wp2;go_returns
    exact ⟨rfl,HT.out.all4 hi ⟨true,false,false,m⟩ hm,((((Ch.refl F w).setCell (p:=⟨p,i*4,none⟩) (fun _=>HT.out.fp) _).setCell (p:=⟨p,i*4+1,none⟩) (fun _=>HT.out.fp) _).setCell (p:=⟨p,i*4+2,none⟩) (fun _=>HT.out.fp) _).setCell (p:=⟨p,i*4+3,none⟩) (fun _=>HT.out.fp) _,by simp⟩
 ·have A:=Hd (ifind_no w p n (may_no hmy))
  rw [if_pos hmy];clear h hmy
  go_enter func139,ntmps139
  go_wp2_with fail;refine A.out.mono ?_;rintro e w1 ⟨rfl,rfl⟩;go_wp2;go_returns
  exact ⟨rfl,HT.out,Ch.refl _ _,rfl⟩
def irqTurn (t:Irqs) (n:Int) (f:Irq→Irq):Irqs × Int:=if irqWhy t n=0 then (irqSet t n f,0) else (t,irqWhy t n)
theorem ifree_any (w:World) {t:Irqs} (h:IrqsAt w F p t) (n:Int):Calls prog 142 #[.pointer (some ⟨p,0,none⟩),.int .i64 n] w fun e w'=>e=.returned (.int .i64 (irqTurn t n (fun _=>noIrq)).2)∧IrqsAt w' F p (irqTurn t n (fun _=>noIrq)).1∧Ch F w w'∧w'.heap.size=w.heap.size:=by
 unfold irqTurn;have HT:=Hd h;have A:=Hd (iwanted_any w h n)
 rcases irqWhy_cases t n with ⟨hm,e⟩ | ⟨i,rfl,hi,hw,e,-⟩ | ⟨i,rfl,hi,hw,e,-⟩
 ·rw [e] at A ⊢
  clear e hm h
  go_enter func142,ntmps142
  go_wp2_with fail;refine A.out.mono ?_;rintro e w1 ⟨rfl,rfl⟩;go_wp2;go_returns
  exact ⟨rfl,HT.out,Ch.refl _ _,rfl⟩
 ·rw [e] at A ⊢
  clear e h hw
  go_enter func142,ntmps142
  go_wp2_with fail;refine A.out.mono ?_;rintro e w1 ⟨rfl,rfl⟩;go_wp2;go_returns
  exact ⟨rfl,HT.out,Ch.refl _ _,rfl⟩
 ·rw [e] at A ⊢
  have k0:=h.cell (h.get hi) 0 (by omega)
  have k1:=h.cell (h.get hi) 1 (by omega)
  have k2:=h.cell (h.get hi) 2 (by omega)
  have k3:=h.cell (h.get hi) 3 (by omega)
  have f0:w.frozen? ⟨p,i*4,none⟩=false:=h.head.frozen _
  have f1:w.frozen? ⟨p,i*4+1,none⟩=false:=h.head.frozen _
  have f2:w.frozen? ⟨p,i*4+2,none⟩=false:=h.head.frozen _
  have f3:w.frozen? ⟨p,i*4+3,none⟩=false:=h.head.frozen _
  unfold irqSet
  simp only [Int.toNat_natCast,if_true] at A ⊢
  clear h e hw;generalize t.all.getD i noIrq=x at *
  simp [irqL] at k0 k1 k2 k3
  go_enter func142,ntmps142
  go_wp2_with fail;refine A.out.mono ?_;rintro e w1 ⟨rfl,rfl⟩;go_wp2;go_returns
  exact ⟨rfl,HT.out.all4 hi noIrq (by decide),((((Ch.refl F w).setCell (p:=⟨p,i*4,none⟩) (fun _=>HT.out.fp) _).setCell (p:=⟨p,i*4+1,none⟩) (fun _=>HT.out.fp) _).setCell (p:=⟨p,i*4+2,none⟩) (fun _=>HT.out.fp) _).setCell (p:=⟨p,i*4+3,none⟩) (fun _=>HT.out.fp) _,by simp⟩
def irqAim (t:Irqs) (n:Int) (m:Nat):Irqs × Int:=if irqWhy t n=0 then (if decide (m≠0) && withinF m t.cpus then (irqSet t n (fun x=>⟨x.wanted,x.masked,x.pending,m⟩),0) else (t,2)) else (t,irqWhy t n)
theorem iaim_any (w:World) {t:Irqs} (h:IrqsAt w F p t) (n:Int) (m:Nat) (hm64:m < top64):Calls prog 145 #[.pointer (some ⟨p,0,none⟩),.int .i64 n,.int .u64 m] w fun e w'=>e=.returned (.int .i64 (irqAim t n m).2)∧IrqsAt w' F p (irqAim t n m).1∧Ch F w w'∧w'.heap.size=w.heap.size:=by
 unfold irqAim;have HT:=Hd h;have A:=Hd (iwanted_any w h n)
 rcases irqWhy_cases t n with ⟨hm,e⟩ | ⟨i,rfl,hi,hw,e,-⟩ | ⟨i,rfl,hi,hw,e,-⟩
 ·rw [e] at A ⊢
  clear e hm h
  go_enter func145,ntmps145
  go_wp2_with fail;refine A.out.mono ?_;rintro e w1 ⟨rfl,rfl⟩;go_wp2;go_returns
  exact ⟨rfl,HT.out,Ch.refl _ _,rfl⟩
 ·rw [e] at A ⊢
  clear e h hw
  go_enter func145,ntmps145
  go_wp2_with fail;refine A.out.mono ?_;rintro e w1 ⟨rfl,rfl⟩;go_wp2;go_returns
  exact ⟨rfl,HT.out,Ch.refl _ _,rfl⟩
 ·rw [e] at A ⊢
  have R:=Hd (iright_any w h m hm64)
  have hx:=h.get hi
  have k3:=h.cell hx 3 (by omega)
  have f3:w.frozen? ⟨p,i*4+3,none⟩=false:=h.head.frozen _
  unfold irqSet
  simp only [Int.toNat_natCast,if_true] at A ⊢
  clear h e hw;generalize t.all.getD i noIrq=x at *;replace hx:=Hd hx;generalize (decide (m≠0) && withinF m t.cpus)=r at *
  simp [irqL] at k3
  cases r with
  | false =>
   rw [if_neg (by simp)]
   go_enter func145,ntmps145
   go_wp2_with fail;refine A.out.mono ?_;rintro e w1 ⟨rfl,rfl⟩;go_wp2_with fail;refine R.out.mono ?_;rintro e w1 ⟨rfl,rfl⟩;go_wp2;go_returns
   exact ⟨rfl,HT.out,Ch.refl _ _,rfl⟩
  | true =>
   rw [if_pos rfl]
   go_enter func145,ntmps145
   go_wp2_with fail;refine A.out.mono ?_;rintro e w1 ⟨rfl,rfl⟩;go_wp2_with fail;refine R.out.mono ?_;rintro e w1 ⟨rfl,rfl⟩;go_wp2;go_returns
   exact ⟨rfl,HT.out.set hx.out 3 (by omega) ⟨x.wanted,x.masked,x.pending,m⟩ _ rfl hm64,(Ch.refl F w).setCell (p:=⟨p,i*4+3,none⟩) (fun _=>HT.out.fp) _,by simp⟩
def irqHush (t:Irqs) (n:Int) (b:Bool):Irqs × Int:=if irqWhy t n=0 then (if (irqAt t n).masked=b then (t,6) else (irqSet t n (fun x=>⟨x.wanted,b,x.pending,x.mask⟩),0)) else (t,irqWhy t n)
theorem ihush_any (w:World) {t:Irqs} (h:IrqsAt w F p t) (n:Int) (b:Bool):Calls prog 230 #[.pointer (some ⟨p,0,none⟩),.int .i64 n,.bool b] w fun e w'=>e=.returned (.int .i64 (irqHush t n b).2)∧IrqsAt w' F p (irqHush t n b).1∧Ch F w w'∧w'.heap.size=w.heap.size:=by
 unfold irqHush;have HT:=Hd h;have A:=Hd (iwanted_any w h n)
 rcases irqWhy_cases t n with ⟨hm,e⟩ | ⟨i,rfl,hi,hw,e,-⟩ | ⟨i,rfl,hi,hw,e,-⟩
 ·rw [e] at A ⊢
  clear e hm h
  go_enter func230,ntmps230
  go_wp2_with fail;refine A.out.mono ?_;rintro e w1 ⟨rfl,rfl⟩;go_wp2;go_returns
  exact ⟨rfl,HT.out,Ch.refl _ _,rfl⟩
 ·rw [e] at A ⊢
  clear e h hw
  go_enter func230,ntmps230
  go_wp2_with fail;refine A.out.mono ?_;rintro e w1 ⟨rfl,rfl⟩;go_wp2;go_returns
  exact ⟨rfl,HT.out,Ch.refl _ _,rfl⟩
 ·rw [e] at A ⊢
  have hx:=h.get hi
  have k1:=h.cell hx 1 (by omega)
  have f1:w.frozen? ⟨p,i*4+1,none⟩=false:=h.head.frozen _
  have hl:=h.lm _ (List.mem_of_getElem? hx)
  unfold irqSet irqAt
  simp only [Int.toNat_natCast,if_true] at A ⊢
  clear h e hw;generalize t.all.getD i noIrq=x at *;replace hx:=Hd hx;replace hl:=Hd hl
  simp [irqL] at k1
  by_cases hb:x.masked=b
  ·rw [if_pos hb]
   have hb':(x.masked == b)=true:=by simpa using hb
   clear hb
   go_enter func230,ntmps230
   go_wp2_with fail;refine A.out.mono ?_;rintro e w1 ⟨rfl,rfl⟩;go_wp2;go_returns
   exact ⟨rfl,HT.out,Ch.refl _ _,rfl⟩
  ·rw [if_neg hb]
   have hb':(x.masked == b)=false:=by simpa using hb
   clear hb
   go_enter func230,ntmps230
   go_wp2_with fail;refine A.out.mono ?_;rintro e w1 ⟨rfl,rfl⟩;go_wp2;go_returns
   exact ⟨rfl,HT.out.set hx.out 1 (by omega) ⟨x.wanted,b,x.pending,x.mask⟩ _ rfl hl.out,(Ch.refl F w).setCell (p:=⟨p,i*4+1,none⟩) (fun _=>HT.out.fp) _,by simp⟩
theorem ihush1_any (w:World) {t:Irqs} (h:IrqsAt w F p t) (n:Int):Calls prog 148 #[.pointer (some ⟨p,0,none⟩),.int .i64 n] w fun e w'=>e=.returned (.int .i64 (irqHush t n true).2)∧IrqsAt w' F p (irqHush t n true).1∧Ch F w w'∧w'.heap.size=w.heap.size:=by
 have A:=Hd (ihush_any w h n true);clear h;generalize irqHush t n true=u at *
 go_enter func148,ntmps148
 go_wp2_with fail;refine A.out.mono ?_;rintro e w1 ⟨rfl,h1⟩;replace h1:=Hd h1;go_wp2;go_returns
 exact ⟨rfl,h1.out⟩
theorem ihush0_any (w:World) {t:Irqs} (h:IrqsAt w F p t) (n:Int):Calls prog 149 #[.pointer (some ⟨p,0,none⟩),.int .i64 n] w fun e w'=>e=.returned (.int .i64 (irqHush t n false).2)∧IrqsAt w' F p (irqHush t n false).1∧Ch F w w'∧w'.heap.size=w.heap.size:=by
 have A:=Hd (ihush_any w h n false);clear h;generalize irqHush t n false=u at *
 go_enter func149,ntmps149
 go_wp2_with fail;refine A.out.mono ?_;rintro e w1 ⟨rfl,h1⟩;replace h1:=Hd h1;go_wp2;go_returns
 exact ⟨rfl,h1.out⟩
def raiseF (x:Irq):Irq:=⟨x.wanted,x.masked,true,x.mask⟩
theorem iraise_any (w:World) {t:Irqs} (h:IrqsAt w F p t) (n:Int):Calls prog 150 #[.pointer (some ⟨p,0,none⟩),.int .i64 n] w fun e w'=>e=.returned (.int .i64 (irqTurn t n raiseF).2)∧IrqsAt w' F p (irqTurn t n raiseF).1∧Ch F w w'∧w'.heap.size=w.heap.size:=by
 unfold irqTurn;have HT:=Hd h;have A:=Hd (iwanted_any w h n)
 rcases irqWhy_cases t n with ⟨hm,e⟩ | ⟨i,rfl,hi,hw,e,-⟩ | ⟨i,rfl,hi,hw,e,-⟩
 ·rw [e] at A ⊢
  clear e hm h
  go_enter func150,ntmps150
  go_wp2_with fail;refine A.out.mono ?_;rintro e w1 ⟨rfl,rfl⟩;go_wp2;go_returns
  exact ⟨rfl,HT.out,Ch.refl _ _,rfl⟩
 ·rw [e] at A ⊢
  clear e h hw
  go_enter func150,ntmps150
  go_wp2_with fail;refine A.out.mono ?_;rintro e w1 ⟨rfl,rfl⟩;go_wp2;go_returns
  exact ⟨rfl,HT.out,Ch.refl _ _,rfl⟩
 ·rw [e] at A ⊢
  have hx:=h.get hi
  have k2:=h.cell hx 2 (by omega)
  have f2:w.frozen? ⟨p,i*4+2,none⟩=false:=h.head.frozen _
  have hl:=h.lm _ (List.mem_of_getElem? hx)
  unfold irqSet
  simp only [Int.toNat_natCast,if_true] at A ⊢
  clear h e hw;generalize t.all.getD i noIrq=x at *;replace hx:=Hd hx;replace hl:=Hd hl
  simp [irqL] at k2
  go_enter func150,ntmps150
  go_wp2_with fail;refine A.out.mono ?_;rintro e w1 ⟨rfl,rfl⟩;go_wp2;go_returns
  exact ⟨rfl,HT.out.set hx.out 2 (by omega) (raiseF x) _ rfl hl.out,(Ch.refl F w).setCell (p:=⟨p,i*4+2,none⟩) (fun _=>HT.out.fp) _,by simp⟩
def irqReady (t:Irqs) (n:Int):Bool:=decide (irqWhy t n=0) && (irqAt t n).pending && !(irqAt t n).masked
theorem iready_any (w:World) {t:Irqs} (h:IrqsAt w F p t) (n:Int):Calls prog 32 #[.pointer (some ⟨p,0,none⟩),.int .i64 n] w fun e w'=>e=.returned (.bool (irqReady t n))∧w=w':=by
 unfold irqReady;have A:=Hd (iwanted_any w h n)
 rcases irqWhy_cases t n with ⟨hm,e⟩ | ⟨i,rfl,hi,hw,e,-⟩ | ⟨i,rfl,hi,hw,e,-⟩
 ·rw [e] at A ⊢
  clear e hm h
  go_enter func32,ntmps32
  go_wp2_with fail;refine A.out.mono ?_;rintro e w1 ⟨rfl,rfl⟩;go_wp2;go_returns
  exact ⟨rfl,rfl⟩
 ·rw [e] at A ⊢
  clear e h hw
  go_enter func32,ntmps32
  go_wp2_with fail;refine A.out.mono ?_;rintro e w1 ⟨rfl,rfl⟩;go_wp2;go_returns
  exact ⟨rfl,rfl⟩
 ·rw [e] at A ⊢
  have hx:=h.get hi
  have k1:=h.cell hx 1 (by omega)
  have k2:=h.cell hx 2 (by omega)
  unfold irqAt
  simp only [Int.toNat_natCast,if_true] at A ⊢
  clear h e hw hx;generalize t.all.getD i noIrq=x at *;obtain ⟨x0,x1,x2,x3⟩:=x
  simp [irqL] at k1 k2
  cases x1
  all_goals cases x2
  all_goals
   go_enter func32,ntmps32
   go_wp2_with fail;refine A.out.mono ?_;rintro e w1 ⟨rfl,rfl⟩;go_wp2;go_returns
   exact ⟨rfl,rfl⟩
def clearF (x:Irq):Irq:=⟨x.wanted,x.masked,false,x.mask⟩
def irqClear (t:Irqs) (n:Int):Irqs × Int:=if irqWhy t n=0 then (if (irqAt t n).pending && !(irqAt t n).masked then (irqSet t n clearF,0) else (t,12)) else (t,irqWhy t n)
theorem iclear_any (w:World) {t:Irqs} (h:IrqsAt w F p t) (n:Int):Calls prog 203 #[.pointer (some ⟨p,0,none⟩),.int .i64 n] w fun e w'=>e=.returned (.int .i64 (irqClear t n).2)∧IrqsAt w' F p (irqClear t n).1∧Ch F w w'∧w'.heap.size=w.heap.size:=by
 unfold irqClear;have HT:=Hd h;have A:=Hd (iwanted_any w h n)
 rcases irqWhy_cases t n with ⟨hm,e⟩ | ⟨i,rfl,hi,hw,e,-⟩ | ⟨i,rfl,hi,hw,e,-⟩
 ·rw [e] at A ⊢
  clear e hm h
  go_enter func203,ntmps203
  go_wp2_with fail;refine A.out.mono ?_;rintro e w1 ⟨rfl,rfl⟩;go_wp2;go_returns
  exact ⟨rfl,HT.out,Ch.refl _ _,rfl⟩
 ·rw [e] at A ⊢
  clear e h hw
  go_enter func203,ntmps203
  go_wp2_with fail;refine A.out.mono ?_;rintro e w1 ⟨rfl,rfl⟩;go_wp2;go_returns
  exact ⟨rfl,HT.out,Ch.refl _ _,rfl⟩
 ·rw [e] at A ⊢
  have hx:=h.get hi
  have k1:=h.cell hx 1 (by omega)
  have k2:=h.cell hx 2 (by omega)
  have f2:w.frozen? ⟨p,i*4+2,none⟩=false:=h.head.frozen _
  have hl:=h.lm _ (List.mem_of_getElem? hx)
  unfold irqSet irqAt
  simp only [Int.toNat_natCast,if_true] at A ⊢
  clear h e hw;generalize t.all.getD i noIrq=x at *;replace hx:=Hd hx;replace hl:=Hd hl
  simp [irqL] at k1 k2
  cases h2:x.pending with
  | false =>
   rw [h2] at k2;rw [if_neg (by simp)];clear h2
   go_enter func203,ntmps203
   go_wp2_with fail;refine A.out.mono ?_;rintro e w1 ⟨rfl,rfl⟩;go_wp2;go_returns
   exact ⟨rfl,HT.out,Ch.refl _ _,rfl⟩
  | true =>
   rw [h2] at k2;replace h2:=Hd h2
   cases h1:x.masked with
   | true =>
    rw [h1] at k1;rw [if_neg (by simp)];clear h1
    go_enter func203,ntmps203
    go_wp2_with fail;refine A.out.mono ?_;rintro e w1 ⟨rfl,rfl⟩;go_wp2;go_returns
    exact ⟨rfl,HT.out,Ch.refl _ _,rfl⟩
   | false =>
    rw [h1] at k1;rw [if_pos (by simp)];replace h1:=Hd h1
    go_enter func203,ntmps203
    go_wp2_with fail;refine A.out.mono ?_;rintro e w1 ⟨rfl,rfl⟩;go_wp2;go_returns
    exact ⟨rfl,HT.out.set hx.out 2 (by omega) (clearF x) _ rfl hl.out,(Ch.refl F w).setCell (p:=⟨p,i*4+2,none⟩) (fun _=>HT.out.fp) _,by simp⟩
theorem run_idx {P:Program} {t e:TypeId} {n sz:Nat} {cs:Array Value} {k:IntKind} {i:Nat} (h:P.underlying t=some (.array n e)) (hi:i < n) (ha:∀ w,(isAgg e).run P w=.ok true w) (hs:∀ w,(sizeOf e).run P w=.ok sz w) (w:World):(Instr.index t (.agg cs) (.int k i)).run P w=.ok (.agg (cs.extract (i*sz) (i*sz+sz))) w:=by
 have hn:(0:Int)≤i∧(i:Int) < n:=by omega
 have h1:=hs w
 have h2:=ha w
 simp only [Instr.index,asIntOf,Sem.run_bind,Sem.run_pure,run_underlying h,Result.andThen,if_pos hn,part,h1,h2,Int.toNat_natCast,if_true]
theorem run_idx1 {P:Program} {t e:TypeId} {n:Nat} {cs:Array Value} {k:IntKind} {i:Nat} {v:Value} (h:P.underlying t=some (.array n e)) (hi:i < n) (ha:∀ w,(isAgg e).run P w=.ok false w) (hs:∀ w,(sizeOf e).run P w=.ok 1 w) (hv:cs[i]? = some v) (w:World):(Instr.index t (.agg cs) (.int k i)).run P w=.ok v w:=by
 have hn:(0:Int)≤i∧(i:Int) < n:=by omega
 have h1:=hs w
 have h2:=ha w
 simp only [Instr.index,asIntOf,Sem.run_bind,Sem.run_pure,run_underlying h,Result.andThen,if_pos hn,part,h1,h2,Int.toNat_natCast,Nat.mul_one,hv,Bool.false_eq_true,if_false]
theorem run_loadAgg {P:Program} {t:TypeId} {b o:Nat} {cs:List Value} (ha:∀ w,(isAgg t).run P w=.ok true w) (hs:∀ w,(sizeOf t).run P w=.ok cs.length w) (w:World) (hc:∀ j v,cs[j]? = some v→w.cell? ⟨b,o+j,none⟩=some v):(loadVar t ⟨b,o,none⟩).run P w=.ok (.agg cs.toArray) w:=by
 have hl:=run_loadCells_list (P:=P) w ⟨b,o,none⟩ cs (fun j v hv=>by
  have hadd:(⟨b,o,none⟩:Addr).add j=⟨b,o+j,none⟩:=by unfold Addr.add;split <;> simp_all
  rw [hadd];exact hc j v hv)
 have h1:=hs w
 have h2:=ha w
 simp [loadVar,Sem.run_bind,h1,h2,hl]
theorem wpList_loadAgg {P:Program} {ops:Array Oper} {rest:List Oper} {o:Oper} {a:Act} {Q:Exit→Act→World→Prop} (hgd:o.guard=none) (ty:TypeId) (x:Operand) (ho:o.op=.load ty x) {p:Addr} {A:Array Value} (hl:(loadVar ty p).run P w=.ok (.agg A) w) (hx:a.eval x=.pointer (some p))
  (h:wpList P ops Q rest (a.put o.dst (.agg A)) w):wpList P ops Q (o::rest) a w :=
 wpList_plain hgd fun _ hK=>by
  unfold Oper.wp execOp
  simp only [ho,hx,Instr.loadAt,Instr.sureAddr,Sem.run_bind,Sem.run_pure,Result.andThen_ok,hl]
  exact hK _ _ h
def svL (sv:Nat→Value):List Value:=(List.range 168).map sv
theorem svL_len (sv:Nat→Value):(svL sv).length=168:=by simp [svL]
theorem svL_get {sv:Nat→Value} {i:Nat} (h:i < 168):(svL sv)[i]? = some (sv i):=by simp [svL,h]
theorem svL_ext (sv:Nat→Value) (k:Nat) (hk:k < 21):(svL sv).toArray.extract (k*8) (k*8+8)=#[sv (k*8),sv (k*8+1),sv (k*8+2),sv (k*8+3),sv (k*8+4),sv (k*8+5),sv (k*8+6),sv (k*8+7)]:=by
 apply Array.ext_getElem?
 intro i
 by_cases hi:i < 8
 ·have e1:((svL sv).toArray.extract (k*8) (k*8+8))[i]? = some (sv (k*8+i)):=by
   have h1:k*8+i < 168:=by omega
   rw [Array.getElem?_extract,if_pos (by rw [List.size_toArray,svL_len];omega),List.getElem?_toArray,svL_get h1]
  rw [e1]
  rcases (by omega:i=0∨i=1∨i=2∨i=3∨i=4∨i=5∨i=6∨i=7) with rfl | rfl | rfl | rfl | rfl | rfl | rfl | rfl <;> rfl
 ·rw [Array.getElem?_eq_none (by rw [Array.size_extract,List.size_toArray,svL_len];omega),Array.getElem?_eq_none (by simp;omega)]
def firstL:List (List Int)→List Int
 | []=>[]
 | l::t=>if l=[] then firstL t else l
theorem firstL_at:∀ (ls:List (List Int)) (i:Nat),i < ls.length→(∀ j,j < i→ls.getD j []=[])→ls.getD i []≠[]→firstL ls=ls.getD i []
 | [],i,h,_,_=>by simp at h
 | l::t,0,h,_,hn=>by have hn':l≠[]:=hn;simp [firstL,hn']
 | l::t,i+1,h,hj,hn=>by
  have h0:l=[]:=hj 0 (by omega)
  have:=firstL_at t i (by simpa using h) (fun j hj'=>by have:=hj (j+1) (by omega);simpa using this) (by simpa using hn)
  simp [firstL,h0,this]
theorem firstL_none:∀ (ls:List (List Int)),(∀ j,j < ls.length→ls.getD j []=[])→firstL ls=[]
 | [],_=>rfl
 | l::t,h=>by
  have h0:l=[]:=h 0 (by simp)
  have:=firstL_none t (fun j hj=>by have:=h (j+1) (by simpa using hj);simpa using this)
  simp [firstL,h0,this]
def wheelFirst (s:Wheel):List Int:=if wheelReady s≠[] then wheelReady s else firstL (s.ls.take 168)
theorem wfirst_any (w:World) {s:Wheel} (h:WheelAt w F p s):Calls prog 321 #[.pointer (some ⟨p,0,none⟩)] w fun e w'=>(∃ v,e=.returned v∧IntsAt w' F v (wheelFirst s))∧Below w.heap.size w w':=by
 obtain ⟨mb,sv,c,h⟩:=h
 have cr:w.cell? ⟨p,170,none⟩=some (sv 168):=by rw [h.head.cell];exact wheelCells_get _ _ _ 168 (by omega)
 have hI:=h.ls 168 (by omega)
 obtain ⟨br,cpr,hsv⟩:=RowAt.form hI
 have hlen:=h.len;unfold wheelFirst
 unfold wheelReady at *
 by_cases h0:s.ls.getD 168 []=[]
 ·rw [if_neg (by simpa using h0)]
  rw [hsv,h0] at cr
  have hl:(loadVar 274 ⟨p,2,none⟩).run prog w=.ok (.agg (svL sv).toArray) w:=run_loadAgg (fun w=>isAgg274 w) (fun w=>by rw [svL_len];exact sizeOf274 w) w (fun j v hj=>by
   have hj2:j < 168:=by have:=(List.getElem?_eq_some_iff.1 hj).1;rwa [svL_len] at this
   rw [svL_get hj2] at hj
   rw [h.head.cell,wheelCells_get _ _ _ _ (by omega)];exact hj)
  have H:=Hd h
  simp only [List.length_nil] at cr
  obtain ⟨A,hA⟩:∃ A,A=(svL sv).toArray:=⟨_,rfl⟩
  rw [← hA] at hl;replace hA:=Hd hA
  obtain ⟨g,hg⟩:∃ g:Nat→List Int,g=fun i=>s.ls.getD i []:=⟨_,rfl⟩
  have hI:Hid (∀ i,i < 168→IntsAt w F (sv i) (g i)):=Hd (fun i hi=>by rw [hg];exact (H.out.ls i (by omega)).mono Col.sub)
  have hF1:Hid ((∀ i,i < 168→g i=[])→firstL (s.ls.take 168)=[]):=Hd (fun h=>firstL_none _ (fun j hj=>by
   have hj2:j < 168:=by simp at hj;omega
   have:=h j hj2
   rw [hg] at this;rw [List.getD_eq_getElem?_getD,List.getElem?_take_of_lt hj2,← List.getD_eq_getElem?_getD]
   exact this))
  have hF2:Hid (∀ i,i < 168→(∀ j,j < i→g j=[])→g i≠[]→firstL (s.ls.take 168)=g i):=Hd (fun i hi h1 h2=>by
   have e:∀ j,j < 168→(s.ls.take 168).getD j []=g j:=fun j hj=>by
    rw [hg,List.getD_eq_getElem?_getD,List.getElem?_take_of_lt hj,← List.getD_eq_getElem?_getD]
   rw [← e i hi]
   exact firstL_at _ i (by simp;rw [hlen];omega) (fun j hj=>by rw [e j (by omega)];exact h1 j hj) (by rw [e i hi];exact h2))
  have hix:Hid (∀ (k:Nat) W,k < 21→(Instr.index 274 (.agg A) (.int .i64 k)).run prog W=.ok (.agg #[sv (k*8),sv (k*8+1),sv (k*8+2),sv (k*8+3),sv (k*8+4),sv (k*8+5),sv (k*8+6),sv (k*8+7)]) W):=Hd (fun k W hk=>by
   rw [run_idx underlying274 hk (fun w=>isAgg273 w) (fun w=>sizeOf273 w) W,hA.out,svL_ext sv k hk])
  have hform:Hid (∀ i,i < 168→∃ b cap,sv i=.slice b (g i).length cap):=Hd (fun i hi=>RowAt.form (hI.out i hi))
  generalize firstL (s.ls.take 168)=R at *
  have hFin:Hid (∀ (i n:Nat) (b:Option Addr) (cap:Nat) (W:World),i < 168→Below w.heap.size w W→(∀ j,j < i→g j=[])→n=(g i).length→0 < n→sv i=.slice b n cap→IntsAt W F (.slice b n cap) R):=Hd (fun i n b cap W hi hb h1 h2 h3 h4=>by
   have h5:g i≠[]:=fun e=>by rw [e] at h2;simp at h2;omega
   rw [hF2.out i hi h1 h5,← h4]
   exact (hI.out i hi).ch (Ch.off hb) (fun _ _ h=>h))
  clear h hsv h0 hlen hg H
  go_enter func321,ntmps321
  go_wp2
  go_step3
  go_wp2
  go_step3
  go_wp2_with (refine wpList_loadAgg rfl 274 (.tmp 18) rfl hl rfl ?_)
  go_loopw [20,3] (fun iv ov wr=>∃ k:Nat,iv=.int .i64 k∧k≤21∧Hid (∀ j,j < k*8→g j=[])∧Hid (IntsAt wr F ov [])∧Hid (Below w.heap.size w wr)) (fun iv _ _=>21 - (intOf iv).toNat)
  case atStart=>exact ⟨0,rfl,by omega,Hd (fun j hj=>by omega),Hd (IntsAt.nil _ _),Hd (Below.refl _ _)⟩
  case round =>
   obtain ⟨k,rfl,hk,HE,HO,HB⟩:=hrel
   by_cases hlt:k < 21
   ·have ix:=fun W=>hix.out k W hlt
    obtain ⟨b0,c0,e0⟩:=hform.out (k*8) (by omega)
    obtain ⟨b1,c1,e1⟩:=hform.out (k*8+1) (by omega)
    obtain ⟨b2,c2,e2⟩:=hform.out (k*8+2) (by omega)
    obtain ⟨b3,c3,e3⟩:=hform.out (k*8+3) (by omega)
    obtain ⟨b4,c4,e4⟩:=hform.out (k*8+4) (by omega)
    obtain ⟨b5,c5,e5⟩:=hform.out (k*8+5) (by omega)
    obtain ⟨b6,c6,e6⟩:=hform.out (k*8+6) (by omega)
    obtain ⟨b7,c7,e7⟩:=hform.out (k*8+7) (by omega)
    rw [e0,e1,e2,e3,e4,e5,e6,e7] at ix
    obtain ⟨n0,hn0⟩:∃ n,n=(g (k*8)).length:=⟨_,rfl⟩
    obtain ⟨n1,hn1⟩:∃ n,n=(g (k*8+1)).length:=⟨_,rfl⟩
    obtain ⟨n2,hn2⟩:∃ n,n=(g (k*8+2)).length:=⟨_,rfl⟩
    obtain ⟨n3,hn3⟩:∃ n,n=(g (k*8+3)).length:=⟨_,rfl⟩
    obtain ⟨n4,hn4⟩:∃ n,n=(g (k*8+4)).length:=⟨_,rfl⟩
    obtain ⟨n5,hn5⟩:∃ n,n=(g (k*8+5)).length:=⟨_,rfl⟩
    obtain ⟨n6,hn6⟩:∃ n,n=(g (k*8+6)).length:=⟨_,rfl⟩
    obtain ⟨n7,hn7⟩:∃ n,n=(g (k*8+7)).length:=⟨_,rfl⟩
    rw [← hn0,← hn1,← hn2,← hn3,← hn4,← hn5,← hn6,← hn7] at ix
    have i0:∀ W,(Instr.index 273 (.agg #[Value.slice b0 n0 c0,Value.slice b1 n1 c1,Value.slice b2 n2 c2,Value.slice b3 n3 c3,Value.slice b4 n4 c4,Value.slice b5 n5 c5,Value.slice b6 n6 c6,Value.slice b7 n7 c7]) (.int .i64 0)).run prog W=.ok (.slice b0 n0 c0) W:=fun W=>run_idx1 (P:=prog) (t:=273) (k:=.i64) (i:=0) underlying273 (by omega) (fun w=>isAgg65 w) (fun w=>sizeOf65 w) rfl W
    have i1:∀ W,(Instr.index 273 (.agg #[Value.slice b0 n0 c0,Value.slice b1 n1 c1,Value.slice b2 n2 c2,Value.slice b3 n3 c3,Value.slice b4 n4 c4,Value.slice b5 n5 c5,Value.slice b6 n6 c6,Value.slice b7 n7 c7]) (.int .i64 1)).run prog W=.ok (.slice b1 n1 c1) W:=fun W=>run_idx1 (P:=prog) (t:=273) (k:=.i64) (i:=1) underlying273 (by omega) (fun w=>isAgg65 w) (fun w=>sizeOf65 w) rfl W
    have i2:∀ W,(Instr.index 273 (.agg #[Value.slice b0 n0 c0,Value.slice b1 n1 c1,Value.slice b2 n2 c2,Value.slice b3 n3 c3,Value.slice b4 n4 c4,Value.slice b5 n5 c5,Value.slice b6 n6 c6,Value.slice b7 n7 c7]) (.int .i64 2)).run prog W=.ok (.slice b2 n2 c2) W:=fun W=>run_idx1 (P:=prog) (t:=273) (k:=.i64) (i:=2) underlying273 (by omega) (fun w=>isAgg65 w) (fun w=>sizeOf65 w) rfl W
    have i3:∀ W,(Instr.index 273 (.agg #[Value.slice b0 n0 c0,Value.slice b1 n1 c1,Value.slice b2 n2 c2,Value.slice b3 n3 c3,Value.slice b4 n4 c4,Value.slice b5 n5 c5,Value.slice b6 n6 c6,Value.slice b7 n7 c7]) (.int .i64 3)).run prog W=.ok (.slice b3 n3 c3) W:=fun W=>run_idx1 (P:=prog) (t:=273) (k:=.i64) (i:=3) underlying273 (by omega) (fun w=>isAgg65 w) (fun w=>sizeOf65 w) rfl W
    have i4:∀ W,(Instr.index 273 (.agg #[Value.slice b0 n0 c0,Value.slice b1 n1 c1,Value.slice b2 n2 c2,Value.slice b3 n3 c3,Value.slice b4 n4 c4,Value.slice b5 n5 c5,Value.slice b6 n6 c6,Value.slice b7 n7 c7]) (.int .i64 4)).run prog W=.ok (.slice b4 n4 c4) W:=fun W=>run_idx1 (P:=prog) (t:=273) (k:=.i64) (i:=4) underlying273 (by omega) (fun w=>isAgg65 w) (fun w=>sizeOf65 w) rfl W
    have i5:∀ W,(Instr.index 273 (.agg #[Value.slice b0 n0 c0,Value.slice b1 n1 c1,Value.slice b2 n2 c2,Value.slice b3 n3 c3,Value.slice b4 n4 c4,Value.slice b5 n5 c5,Value.slice b6 n6 c6,Value.slice b7 n7 c7]) (.int .i64 5)).run prog W=.ok (.slice b5 n5 c5) W:=fun W=>run_idx1 (P:=prog) (t:=273) (k:=.i64) (i:=5) underlying273 (by omega) (fun w=>isAgg65 w) (fun w=>sizeOf65 w) rfl W
    have i6:∀ W,(Instr.index 273 (.agg #[Value.slice b0 n0 c0,Value.slice b1 n1 c1,Value.slice b2 n2 c2,Value.slice b3 n3 c3,Value.slice b4 n4 c4,Value.slice b5 n5 c5,Value.slice b6 n6 c6,Value.slice b7 n7 c7]) (.int .i64 6)).run prog W=.ok (.slice b6 n6 c6) W:=fun W=>run_idx1 (P:=prog) (t:=273) (k:=.i64) (i:=6) underlying273 (by omega) (fun w=>isAgg65 w) (fun w=>sizeOf65 w) rfl W
    have i7:∀ W,(Instr.index 273 (.agg #[Value.slice b0 n0 c0,Value.slice b1 n1 c1,Value.slice b2 n2 c2,Value.slice b3 n3 c3,Value.slice b4 n4 c4,Value.slice b5 n5 c5,Value.slice b6 n6 c6,Value.slice b7 n7 c7]) (.int .i64 7)).run prog W=.ok (.slice b7 n7 c7) W:=fun W=>run_idx1 (P:=prog) (t:=273) (k:=.i64) (i:=7) underlying273 (by omega) (fun w=>isAgg65 w) (fun w=>sizeOf65 w) rfl W
    have h0:=Hd (hI.out (k*8+0) (by omega))
    rw [← hn0] at e0;replace hn0:=Hd hn0;replace e0:=Hd e0
    have h1:=Hd (hI.out (k*8+1) (by omega))
    rw [← hn1] at e1;replace hn1:=Hd hn1;replace e1:=Hd e1
    have h2:=Hd (hI.out (k*8+2) (by omega))
    rw [← hn2] at e2;replace hn2:=Hd hn2;replace e2:=Hd e2
    have h3:=Hd (hI.out (k*8+3) (by omega))
    rw [← hn3] at e3;replace hn3:=Hd hn3;replace e3:=Hd e3
    have h4:=Hd (hI.out (k*8+4) (by omega))
    rw [← hn4] at e4;replace hn4:=Hd hn4;replace e4:=Hd e4
    have h5:=Hd (hI.out (k*8+5) (by omega))
    rw [← hn5] at e5;replace hn5:=Hd hn5;replace e5:=Hd e5
    have h6:=Hd (hI.out (k*8+6) (by omega))
    rw [← hn6] at e6;replace hn6:=Hd hn6;replace e6:=Hd e6
    have h7:=Hd (hI.out (k*8+7) (by omega))
    rw [← hn7] at e7;replace hn7:=Hd hn7;replace e7:=Hd e7;clear hl;go_wp2
    refine wp_loop_rounds 9 ?_
    have hZ:Hid (∀ j,j < k*8→g j=[]):=HE
    rw [rounds_succ]
    rcases Nat.eq_zero_or_pos n0 with z0 | z0
    rotate_left
    ·go_wp2
     rw [Exit.noGoto_ret];go_returns
     exact ⟨⟨_,rfl,hFin.out (k*8+0) _ _ _ _ (by omega) (HB.out.alloc HB.out.size _) hZ.out hn0.out z0 e0.out⟩,HB.out.alloc HB.out.size _⟩
    subst z0
    replace hZ:Hid (∀ j,j < k*8+1→g j=[]):=Hd (fun j hj=>by
     by_cases e:j < k*8+0
     ·exact hZ.out j e
     ·rw [show j=k*8+0 by omega];exact List.eq_nil_of_length_eq_zero hn0.out.symm)
    go_wp2;rw [rounds_succ]
    rcases Nat.eq_zero_or_pos n1 with z1 | z1
    rotate_left
    ·go_wp2
     rw [Exit.noGoto_ret];go_returns
     exact ⟨⟨_,rfl,hFin.out (k*8+1) _ _ _ _ (by omega) (HB.out.alloc HB.out.size _) hZ.out hn1.out z1 e1.out⟩,HB.out.alloc HB.out.size _⟩
    subst z1
    replace hZ:Hid (∀ j,j < k*8+2→g j=[]):=Hd (fun j hj=>by
     by_cases e:j < k*8+1
     ·exact hZ.out j e
     ·rw [show j=k*8+1 by omega];exact List.eq_nil_of_length_eq_zero hn1.out.symm)
    go_wp2;rw [rounds_succ]
    rcases Nat.eq_zero_or_pos n2 with z2 | z2
    rotate_left
    ·go_wp2
     rw [Exit.noGoto_ret];go_returns
     exact ⟨⟨_,rfl,hFin.out (k*8+2) _ _ _ _ (by omega) (HB.out.alloc HB.out.size _) hZ.out hn2.out z2 e2.out⟩,HB.out.alloc HB.out.size _⟩
    subst z2
    replace hZ:Hid (∀ j,j < k*8+3→g j=[]):=Hd (fun j hj=>by
     by_cases e:j < k*8+2
     ·exact hZ.out j e
     ·rw [show j=k*8+2 by omega];exact List.eq_nil_of_length_eq_zero hn2.out.symm)
    go_wp2;rw [rounds_succ]
    rcases Nat.eq_zero_or_pos n3 with z3 | z3
    rotate_left
    ·go_wp2
     rw [Exit.noGoto_ret];go_returns
     exact ⟨⟨_,rfl,hFin.out (k*8+3) _ _ _ _ (by omega) (HB.out.alloc HB.out.size _) hZ.out hn3.out z3 e3.out⟩,HB.out.alloc HB.out.size _⟩
    subst z3
    replace hZ:Hid (∀ j,j < k*8+4→g j=[]):=Hd (fun j hj=>by
     by_cases e:j < k*8+3
     ·exact hZ.out j e
     ·rw [show j=k*8+3 by omega];exact List.eq_nil_of_length_eq_zero hn3.out.symm)
    go_wp2;rw [rounds_succ]
    rcases Nat.eq_zero_or_pos n4 with z4 | z4
    rotate_left
    ·go_wp2
     rw [Exit.noGoto_ret];go_returns
     exact ⟨⟨_,rfl,hFin.out (k*8+4) _ _ _ _ (by omega) (HB.out.alloc HB.out.size _) hZ.out hn4.out z4 e4.out⟩,HB.out.alloc HB.out.size _⟩
    subst z4
    replace hZ:Hid (∀ j,j < k*8+5→g j=[]):=Hd (fun j hj=>by
     by_cases e:j < k*8+4
     ·exact hZ.out j e
     ·rw [show j=k*8+4 by omega];exact List.eq_nil_of_length_eq_zero hn4.out.symm)
    go_wp2;rw [rounds_succ]
    rcases Nat.eq_zero_or_pos n5 with z5 | z5
    rotate_left
    ·go_wp2
     rw [Exit.noGoto_ret];go_returns
     exact ⟨⟨_,rfl,hFin.out (k*8+5) _ _ _ _ (by omega) (HB.out.alloc HB.out.size _) hZ.out hn5.out z5 e5.out⟩,HB.out.alloc HB.out.size _⟩
    subst z5
    replace hZ:Hid (∀ j,j < k*8+6→g j=[]):=Hd (fun j hj=>by
     by_cases e:j < k*8+5
     ·exact hZ.out j e
     ·rw [show j=k*8+5 by omega];exact List.eq_nil_of_length_eq_zero hn5.out.symm)
    go_wp2;rw [rounds_succ]
    rcases Nat.eq_zero_or_pos n6 with z6 | z6
    rotate_left
    ·go_wp2
     rw [Exit.noGoto_ret];go_returns
     exact ⟨⟨_,rfl,hFin.out (k*8+6) _ _ _ _ (by omega) (HB.out.alloc HB.out.size _) hZ.out hn6.out z6 e6.out⟩,HB.out.alloc HB.out.size _⟩
    subst z6
    replace hZ:Hid (∀ j,j < k*8+7→g j=[]):=Hd (fun j hj=>by
     by_cases e:j < k*8+6
     ·exact hZ.out j e
     ·rw [show j=k*8+6 by omega];exact List.eq_nil_of_length_eq_zero hn6.out.symm)
    go_wp2;rw [rounds_succ]
    rcases Nat.eq_zero_or_pos n7 with z7 | z7
    rotate_left
    ·go_wp2
     rw [Exit.noGoto_ret];go_returns
     exact ⟨⟨_,rfl,hFin.out (k*8+7) _ _ _ _ (by omega) (HB.out.alloc HB.out.size _) hZ.out hn7.out z7 e7.out⟩,HB.out.alloc HB.out.size _⟩
    subst z7
    replace hZ:Hid (∀ j,j < k*8+8→g j=[]):=Hd (fun j hj=>by
     by_cases e:j < k*8+7
     ·exact hZ.out j e
     ·rw [show j=k*8+7 by omega];exact List.eq_nil_of_length_eq_zero hn7.out.symm)
    go_wp2;rw [rounds_succ];go_wp2;go_roundw
    case rel =>
     have hb2:=HB.out.alloc HB.out.size (.cells #[Value.slice b0 0 c0,Value.slice b1 0 c1,Value.slice b2 0 c2,Value.slice b3 0 c3,Value.slice b4 0 c4,Value.slice b5 0 c5,Value.slice b6 0 c6,Value.slice b7 0 c7] 273)
     refine ⟨k+1,by go_num,hlt,Hd (fun j hj=>hZ.out j (by omega)),Hd ?_,Hd hb2⟩
     have h8:=hI.out (k*8+7) (by omega)
     rw [e7.out,hZ.out (k*8+7) (by omega)] at h8
     exact h8.ch (Ch.off hb2) (fun _ _ h=>h)
    case measure=>simp [intOf];omega
   ·have:k=21:=by omega
    subst this;go_wp2;rw [Exit.noGoto_ret];go_returns;rw [hF1.out (fun i hi=>HE.out i (by omega))]
    exact ⟨⟨_,rfl,HO.out⟩,HB.out⟩
 ·rw [if_pos (by simpa using h0)]
  have hpos:0 < (s.ls.getD 168 []).length:=List.length_pos_iff.2 h0
  rw [hsv] at cr hI;generalize s.ls.getD 168 []=q at *;replace hI:=Hd hI;clear h hsv h0 hlen
  obtain ⟨n,hn⟩:∃ n,n=q.length:=⟨_,rfl⟩
  rw [← hn] at cr hpos hI;replace hn:=Hd hn
  go_enter func321,ntmps321
  go_wp2
  go_step3
  go_wp2;rw [Exit.noGoto_ret];go_returns
  exact ⟨⟨_,rfl,hI.out.mono Col.sub⟩,Below.refl _ _⟩
end Go.Proofs.YtiocbpabbjgkhaaGreatDoor
namespace Go.Proofs
open Go.Shelf
def Tryz.laysKeys_ren:Go.Shelf.Ren:=⟨fun | 7=>367 | 10=>369 | n=>n,fun | 23=>272 | 26=>3 | 3=>2 | 28=>405 | 0=>0 | 27=>404 | 33=>53 | 4=>4 | n=>n,fun | n=>n⟩
theorem Tryz.laysKeys:Go.Proofs.SlLaysZI.n7 Tryz.prog Tryz.laysKeys_ren:={
 mixed:=by kernel_rfl
 f7:=⟨Tryz.f367.name,by decide,Tryz.func367.trans (congrArg some (by kernel_rfl))⟩
 f10:=⟨Tryz.f369.name,by decide,Tryz.func369.trans (congrArg some (by kernel_rfl))⟩
 t0:=Tryz.underlying0
 a0:=Tryz.isAgg0
 z0:=Tryz.sizeOf0
 v0:=Tryz.zeroValue0
 t4:=Tryz.underlying4
 a4:=Tryz.isAgg4
 z4:=Tryz.sizeOf4
 v4:=Tryz.zeroValue4
 t23:=Tryz.underlying272
 a23:=Tryz.isAgg272
 z23:=Tryz.sizeOf272
 v23:=Tryz.zeroValue272
 t26:=Tryz.underlying3
 a26:=Tryz.isAgg3
 z26:=Tryz.sizeOf3
 v26:=Tryz.zeroValue3
 t27:=Tryz.underlying404
 a27:=Tryz.isAgg404
 z27:=Tryz.sizeOf404
 v27:=Tryz.zeroValue404
 t28:=Tryz.underlying405
 a28:=Tryz.isAgg405
 z28:=Tryz.sizeOf405
 v28:=Tryz.zeroValue405
 t33:=Tryz.underlying53
 a33:=Tryz.isAgg53
 z33:=Tryz.sizeOf53
 v33:=Tryz.zeroValue53 }
def Tryz.laysCollect_ren:Go.Shelf.Ren:=⟨fun | 8=>366 | 11=>368 | n=>n,fun | 26=>3 | 28=>405 | 24=>65 | 0=>0 | 33=>53 | 4=>4 | n=>n,fun | n=>n⟩
theorem Tryz.laysCollect:Go.Proofs.SlLaysZI.n8 Tryz.prog Tryz.laysCollect_ren:={
 mixed:=by kernel_rfl
 f8:=⟨Tryz.f366.name,by decide,Tryz.func366.trans (congrArg some (by kernel_rfl))⟩
 f11:=⟨Tryz.f368.name,by decide,Tryz.func368.trans (congrArg some (by kernel_rfl))⟩
 t0:=Tryz.underlying0
 a0:=Tryz.isAgg0
 z0:=Tryz.sizeOf0
 v0:=Tryz.zeroValue0
 t24:=Tryz.underlying65
 a24:=Tryz.isAgg65
 z24:=Tryz.sizeOf65
 v24:=Tryz.zeroValue65
 t26:=Tryz.underlying3
 a26:=Tryz.isAgg3
 z26:=Tryz.sizeOf3
 v26:=Tryz.zeroValue3
 t28:=Tryz.underlying405
 a28:=Tryz.isAgg405
 z28:=Tryz.sizeOf405
 v28:=Tryz.zeroValue405
 i26:=by kernel_rfl }
end Go.Proofs
namespace Go.Proofs.YtiocbpabbjgkhaaGreatDoor
open Go.RowKit Go.Proofs.Tryz
variable {w w' : World} {F : Nat → Prop} {p : Nat}
section
open Go.Sort Go.Shelf Go.Maps Go.Proofs.YtiocbpabbjgkhaaGreatDoor.NumD
theorem sortedF_same (m:List (Int × Int)) {l l':List Int} (h:l.Perm l'):sortedF m l=sortedF m l':=by
 have tr:∀ a b c:Int,(!(ltOf (cmpF m) b a))=true→(!(ltOf (cmpF m) c b))=true→(!(ltOf (cmpF m) c a))=true:=fun a b c h1 h2=>by
  rw [ltW_iff] at *
  simp at *
  omega
 have tot:∀ a b:Int,((!(ltOf (cmpF m) b a)) || (!(ltOf (cmpF m) a b)))=true:=fun a b=>by
  rw [ltW_iff,ltW_iff]
  simp
  omega
 have e:∀ l,sortedF m l=l.mergeSort (fun a b=>!(ltOf (cmpF m) b a)):=fun l=>by cases l with
  | nil=>simp [sortedF]
  | cons x t=>rfl
 rw [e,e]
 refine List.Perm.eq_of_pairwise (le:=fun a b=>(!(ltOf (cmpF m) b a))=true) (fun a b _ _ h1 h2=>?_) (List.pairwise_mergeSort tr tot l) (List.pairwise_mergeSort tr tot l') (((List.mergeSort_perm l _).trans h).trans (List.mergeSort_perm l' _).symm)
 rw [ltW_iff] at h1 h2
 simp at h1 h2
 omega
def anyR:Value→Option (DataW Unit × List MemPlace):=fun _=>some (.nil,[])
theorem lit_wf {x:Int} (h:In64 x):(Lit.int .i64 x).wf=true:=by
 unfold In64 at h
 have h1:IntKind.i64.min=-9223372036854775808:=by decide
 have h2:IntKind.i64.max=9223372036854775807:=by decide
 simp [Lit.wf,h1,h2]
 omega
theorem MapAt.owns {b:Nat} {m:List (Int × Value)} (h:MapAt w b m) (hk:∀ x∈m,In64 x.1) (hl:m.length≤maxLen):∃ D0:DataW Unit,w.ownsMap prog 3 anyR b m.length D0∧(intKeys D0).Perm (m.map Prod.fst)∧Maps.size D0=m.length:=by
 obtain ⟨es,clock,hb,hs,he⟩:=h
 have hsz:es.size=m.length:=by have:=he.size;simpa using this
 have hread:∀ x∈es.toList,∃ k:Int,x.key=.int .i64 k∧In64 k∧WideElems.rd prog 3 anyR x=some (.int .i64 k,.nil):=by
  intro x hx
  have h1:(x.key,x.val)∈es.toList.map (fun e=>(e.key,e.val)):=List.mem_map.2 ⟨x,hx,rfl⟩
  rw [he] at h1
  obtain ⟨y,hy,e⟩:=List.mem_map.1 h1
  have e1:=(Prod.mk.inj e).1
  refine ⟨y.1,e1.symm,hk y hy,?_⟩
  unfold WideElems.rd;rw [← e1,keyOf_int_mk underlying3 (lit_wf (hk y hy))]
  rfl
 have F:WideElems.Fit prog 3 anyR es clock:=⟨by rw [hsz];exact hl,hs,fun x hx=>by obtain ⟨k,_,_,h⟩:=hread x hx;exact ⟨_,h⟩⟩
 refine ⟨_,⟨es,clock,hb,F,by omega,rfl⟩,?_,?_⟩
 ·show ((es.toList.map (WideElems.rg prog 3 anyR)).foldr DataW.insert []).map (fun p=>Go.intOf p.1) |>.Perm _
  refine ((WideShapes.sorted_perm _).map _).trans ?_
  have:(es.toList.map (WideElems.rg prog 3 anyR)).map (fun p=>Go.intOf p.1)=m.map Prod.fst:=by
   rw [List.map_map]
   have h1:es.toList.map ((fun p:Lit × DataW Unit=>Go.intOf p.1) ∘ WideElems.rg prog 3 anyR)=(es.toList.map (fun e=>(e.key,e.val))).map (fun p=>match p.1 with | .int _ k=>k | _=>0):=by
    rw [List.map_map]
    apply List.map_congr_left
    intro x hx
    obtain ⟨k,h1,_,h2⟩:=hread x hx
    simp [WideElems.rg,h2,h1,Go.intOf]
   rw [h1,he,List.map_map]
   rfl
  rw [this]
 ·show ((es.toList.map (WideElems.rg prog 3 anyR)).foldr DataW.insert []).length=m.length
  rw [length_sorted,List.length_map,Array.length_toList,hsz]
theorem mkeys_any (mb:Nat) (w:World):Calls prog 367 #[.map (some mb)] w fun e w'=>e=.returned (.func (.func 369) #[] #[.pointer (some ⟨w.heap.size,0,none⟩)])∧w'=w.alloc (.cells #[.map (some mb)] 272) :=
 (callsIn_wide (n:=5)).1 (AnyZI.keys_in laysKeys Fence.wide 5 trivial rfl (some mb) w)
theorem mcollect_any {b mb:Nat} {m:List (Int × Value)} (h:MapAt w mb m) (hb:w.cell? ⟨b,0,none⟩=some (.map (some mb))) (hk:∀ x∈m,In64 x.1) (hl:m.length≤1099511627776):Calls prog 366 #[.func (.func 369) #[] #[.pointer (some ⟨b,0,none⟩)]] w fun e w'=>(∃ v ss,e=.returned v∧ss.Perm (m.map Prod.fst)∧IntsAt w' (New w) v ss)∧Below w.heap.size w w':=by
 obtain ⟨D0,h1,h2,h3⟩:=h.owns hk (by unfold maxLen;omega)
 have hseq:SeqGives Fence.wide 1 prog 369 #[.pointer (some ⟨b,0,none⟩)] encZ (fun ss=>ss.Perm (intKeys D0)) (Maps.size D0) w :=
  AnyZI.keys_gives (ρ:=laysKeys_ren) { laysKeys with } Fence.wide _ trivial rfl (by omega) b mb m.length D0 w (World.block_lt_of_cell? w _ hb) hb h1
 have h4:=AnyZI.collect_in laysCollect Fence.wide 3 trivial trivial rfl (by omega) 369 #[.pointer (some ⟨b,0,none⟩)] trivial (enters_of func369 (by kernel_rfl) rfl) _ _ (by rw [h3];unfold maxLen;omega) (by rw [h3];omega) w hseq
 refine ((callsIn_wide (n:=3)).1 h4).mono ?_
 rintro e w' ⟨v,ss,rfl,hp,hrow,_,hbl⟩
 exact ⟨⟨v,ss,rfl,hp.trans h2,ints_of_owns hrow⟩,hbl⟩
def keysOf (s:Wheel):List Int:=s.dues.map Prod.fst
def wheelList (s:Wheel):List Int:=sortedF s.dues (keysOf s)
theorem wlistall_any (w:World) {s:Wheel} (h:WheelAt w F p s) (hk:∀ x∈s.dues,In64 x.1) (hl:s.dues.length≤1000000):Calls prog 363 #[.pointer (some ⟨p,0,none⟩)] w fun e w'=>(∃ v',e=.returned v'∧IntsAt w' (New w) v' (wheelList s))∧Below w.heap.size w w':=by
 have HT:=Hd h;obtain ⟨mb,sv,c,h⟩:=h
 have c1:w.cell? ⟨p,1,none⟩=some (.map (some mb)):=by rw [h.head.cell];rfl
 have A:=Hd (mkeys_any mb w)
 have hb0:Below w.heap.size w (w.alloc (.cells #[.map (some mb)] 272)):=(Below.refl _ _).alloc (Nat.le_refl _) _
 have hlen:(encI s.dues).length=s.dues.length:=by simp [encI]
 have B:=Hd (mcollect_any (MapAt.ch h.map (Ch.off hb0) (fun h=>h)) (cell_at1 _ _ rfl) (fun x hx=>by
  obtain ⟨y,hy,rfl⟩:=List.mem_map.1 hx
  exact hk y hy) (by rw [hlen];omega))
 have hkeys:(encI s.dues).map Prod.fst=keysOf s:=by simp [encI,keysOf]
 rw [hkeys] at B
 have hkl:Hid ((keysOf s).length≤1000000):=Hd (by unfold keysOf;simpa using hl)
 clear h hlen hkeys hk hl;replace hb0:=Hd hb0;unfold wheelList
 go_enter func363,ntmps363
 go_wp2_with fail;refine A.out.mono ?_;rintro e w1 ⟨rfl,rfl⟩;go_wp2_with fail;refine B.out.mono ?_;rintro e w1 ⟨⟨v,ss,rfl,hp,hv⟩,hb⟩
 have hbw:=hb0.out.trans (hb.mono hb0.out.size)
 have hlen:ss.length≤1099511627776:=by have:=hp.length_eq;have:=hkl.out;simp at *;omega
 have D:=Hd (wsorted_any w1 (HT.out.below hbw) v ss hv hlen)
 rw [sortedF_same s.dues hp] at D
 obtain ⟨b0,cp0,rfl⟩:=RowAt.form hv
 replace hbw:=Hd hbw;clear hv hb hp hlen;go_wp2_with fail;refine D.out.mono ?_;rintro e w2 ⟨⟨v,rfl,hv⟩,hb⟩
 obtain ⟨b1,cp1,rfl⟩:=RowAt.form hv
 replace hv:=Hd hv;replace hb:=Hd hb;go_wp2;go_returns
 exact ⟨⟨_,rfl,hv.out.mono (fun b hb=>Nat.le_trans hbw.out.size hb)⟩,hbw.out.trans (hb.out.mono hbw.out.size)⟩
def wheelNext (s:Wheel):Int × Int:=if s.dues=[] then (0,12) else ((mget s.dues ((sortedF s.dues (wheelFirst s)).headD 0)).getD 0,0)
theorem wnext_any (w:World) {s:Wheel} (h:WheelAt w F p s) (hne:s.dues≠[]→wheelFirst s≠[]) (hf:(wheelFirst s).length≤1099511627776):Calls prog 269 #[.pointer (some ⟨p,0,none⟩)] w fun e w'=>e=.returned (.tuple #[.int .i64 (wheelNext s).1,.int .i64 (wheelNext s).2])∧Below w.heap.size w w':=by
 have HT:=h;obtain ⟨mb,sv,c,h⟩:=h
 have c1:w.cell? ⟨p,1,none⟩=some (.map (some mb)):=by rw [h.head.cell];rfl
 unfold wheelNext
 have hl:=fun ty=>IMapAt.mlen (P:=prog) h.map underlying272 ty
 by_cases h0:s.dues=[]
 ·rw [if_pos h0]
  rw [h0] at hl
  simp only [List.length_nil] at hl
  clear h hne HT hf h0
  go_enter func269,ntmps269
  go_wp2;go_returns
  exact ⟨rfl,Below.refl _ _⟩
 ·rw [if_neg h0]
  replace hne:=hne h0
  have hz:((s.dues.length:Int) == 0)=false:=by simp;exact h0
  have hm:=h.map
  have A:Hid (Calls prog 321 #[.pointer (some ⟨p,0,none⟩)] w.drew fun e w'=>(∃ v,e=.returned v∧IntsAt w' F v (wheelFirst s))∧Below w.heap.size w w'):=Hd ((wfirst_any w.drew (HT.below (Below.refl _ _).drew)).mono (fun e w' ⟨h1,h2⟩=>⟨h1,(Below.refl _ w).drew.trans h2⟩))
  have H:=Hd HT
  have hsl:Hid ((sortedF s.dues (wheelFirst s)).length=(wheelFirst s).length):=Hd (sortedF_len _ _)
  replace hf:=Hd hf
  have hpos:0 < (wheelFirst s).length:=List.length_pos_iff.2 hne
  generalize wheelFirst s=L at *
  obtain ⟨n,hn⟩:∃ n,n=s.dues.length:=⟨_,rfl⟩
  rw [← hn] at hz hl;clear h HT hne h0 hn
  obtain ⟨LS,hLS⟩:∃ LS,LS=sortedF s.dues L:=⟨_,rfl⟩
  rw [← hLS] at hsl ⊢
  have hS:Hid (∀ w',Below w.heap.size w w'→(w'.cell? ⟨p,1,none⟩=some (.map (some mb))∧(Instr.lookup 272 (.map (some mb)) (.int .i64 (LS.headD 0)) false).run prog w'=.ok (.int .i64 ((mget s.dues (LS.headD 0)).getD 0)) w')):=Hd (fun w' hb=>⟨keepcell hb c1,(hm.ch (Ch.off hb) (fun h=>h)).look1 underlying272 underlying3 (E:=2) (zero2 _) (LS.headD 0)⟩)
  have hsq:=hS.out _ (Below.refl _ _).drew
  obtain ⟨hsq1,hsq2⟩:=hsq;clear hm
  have D:Hid (∀ w1 v,Below w.heap.size w w1→IntsAt w1 F v L→Calls prog 178 #[.pointer (some ⟨p,0,none⟩),v] w1 fun e w'=>(∃ b cap,e=.returned (.slice (some ⟨b,0,none⟩) LS.length cap)∧w'.cell? ⟨b,0,none⟩=some (.int .i64 (LS.headD 0)))∧Below w.heap.size w w'):=Hd (fun w1 v hb hv=>(wsorted_any w1 (H.out.below hb) v L hv hf.out).mono (fun e w' ⟨⟨v',he,hv'⟩,hb'⟩=>by
   rw [← hLS] at hv'
   obtain ⟨b,cap,rfl,-,-,-,-,hc,-⟩:=hv'.open (by rw [hsl.out];exact hpos)
   have h0:=hc 0 (by rw [hsl.out];exact hpos)
   have e2:LS.getD 0 0=LS.headD 0:=by cases LS <;> rfl
   rw [e2] at h0
   exact ⟨⟨b,cap,he,h0⟩,hb.trans (hb'.mono hb.size)⟩))
  have hp2:0 < LS.length:=by rw [hsl.out];exact hpos
  generalize (mget s.dues (LS.headD 0)).getD 0=R at *;replace hLS:=Hd hLS;generalize LS.headD 0=x at *;generalize LS.length=k at *
  go_enter func269,ntmps269
  go_wp2_with fail
  go_region_with (first
    | (go_at_call 321;refine A.out.mono ?_;rintro e w1 ⟨⟨v,rfl,hv⟩,hb1⟩;have hq1:=hS.out _ hb1;obtain ⟨hq1,hq2⟩:=hq1)
    | (go_at_call 178;refine (D.out w1 _ hb1 hv).mono ?_;rintro e w2 ⟨⟨b2,cap2,rfl,hc2⟩,hb2⟩;have hq3:=hS.out _ hb2;obtain ⟨hq3,hq4⟩:=hq3))
  all_goals
   replace hb2:=Hd hb2;clear hq1 hq2 hq3 hq4 hsq1 hsq2 hv hc2;go_wp2;go_returns
   exact ⟨rfl,hb2.out⟩
end
theorem ownW:Ownable WheelAt:=⟨WheelAt.ch,WheelAt.mono⟩
def noWheel:Wheel:=⟨0,[],[]⟩
abbrev Timers:=Multi Wheel
abbrev TimersAt:=MultiAt WheelAt 175 171 48 0 noWheel
abbrev TimersAtQ:=MultiQ WheelAt 175 171 48 0 noWheel
theorem tmay_zero (w:World) (p:Nat):Calls prog 94 #[.pointer (some ⟨p,0,none⟩),.slice none 0 0] w fun e w'=>e=.returned (.int .i64 0)∧w=w':=by
 go_enter func94,ntmps94
 go_wp2
 refine wp_loop_rounds 1 ?_
 rw [rounds_succ];go_wp2;go_returns
 exact ⟨rfl,rfl⟩
theorem tmay_one (w:World) {m:Timers} (h:TimersAt w F p m) (cpu:Int) (b cap:Nat) (hb:w.cell? ⟨b,0,none⟩=some (.int .i64 cpu)):Calls prog 94 #[.pointer (some ⟨p,0,none⟩),.slice (some ⟨b,0,none⟩) 1 cap] w fun e w'=>e=.returned (.int .i64 (mayF m.l.length cpu))∧w=w':=by
 obtain ⟨sp,wb,rv,ptrs,c,h⟩:=h;obtain ⟨g,gc,rfl,-,-⟩:=h.open
 have c1:w.cell? ⟨p,1,none⟩=some (.slice (some ⟨g,0,none⟩) m.l.length gc):=h.head.cell 1
 clear h;generalize m.l.length=n at *
 rcases may_cases n cpu with ⟨h1,e⟩ | ⟨h1,h2,e⟩ | ⟨i,rfl,h2,e⟩
 ·rw [e]
  clear e
  go_enter func94,ntmps94
  go_wp2
  refine wp_loop_rounds 2 ?_
  rw [rounds_succ];go_wp2;go_returns
  exact ⟨rfl,rfl⟩
 ·rw [e]
  clear e
  go_enter func94,ntmps94
  go_wp2
  refine wp_loop_rounds 2 ?_
  rw [rounds_succ];go_wp2;go_returns
  exact ⟨rfl,rfl⟩
 ·rw [e]
  clear e
  go_enter func94,ntmps94
  go_wp2
  refine wp_loop_rounds 2 ?_
  rw [rounds_succ];go_wp2;rw [rounds_succ];go_wp2;go_returns
  exact ⟨rfl,rfl⟩
def may2 (n:Nat) (a b:Int):Int:=if mayF n a≠0 then mayF n a else mayF n b
theorem tmay_two (w:World) {m:Timers} (h:TimersAt w F p m) (x y:Int) (b cap:Nat) (hb:w.cell? ⟨b,0,none⟩=some (.int .i64 x)) (hb2:w.cell? ⟨b,1,none⟩=some (.int .i64 y)):Calls prog 94 #[.pointer (some ⟨p,0,none⟩),.slice (some ⟨b,0,none⟩) 2 cap] w fun e w'=>e=.returned (.int .i64 (may2 m.l.length x y))∧w=w':=by
 obtain ⟨sp,wb,rv,ptrs,c,h⟩:=h;obtain ⟨g,gc,rfl,-,-⟩:=h.open
 have c1:w.cell? ⟨p,1,none⟩=some (.slice (some ⟨g,0,none⟩) m.l.length gc):=h.head.cell 1
 clear h;unfold may2;generalize m.l.length=n at *
 rcases may_cases n x with ⟨h1,e⟩ | ⟨h1,h2,e⟩ | ⟨i,rfl,h2,e⟩
 ·rw [e,if_pos (by decide)]
  clear e
  go_enter func94,ntmps94
  go_wp2
  refine wp_loop_rounds 3 ?_
  rw [rounds_succ];go_wp2;go_returns
  exact ⟨rfl,rfl⟩
 ·rw [e,if_pos (by decide)]
  clear e
  go_enter func94,ntmps94
  go_wp2
  refine wp_loop_rounds 3 ?_
  rw [rounds_succ];go_wp2;go_returns
  exact ⟨rfl,rfl⟩
 ·rw [e,if_neg (by decide)]
  clear e
  rcases may_cases n y with ⟨h3,e⟩ | ⟨h3,h4,e⟩ | ⟨j,rfl,h4,e⟩
  ·rw [e]
   clear e
   go_enter func94,ntmps94
   go_wp2
   refine wp_loop_rounds 3 ?_
   rw [rounds_succ];go_wp2;rw [rounds_succ];go_wp2;go_returns
   exact ⟨rfl,rfl⟩
  ·rw [e]
   clear e
   go_enter func94,ntmps94
   go_wp2
   refine wp_loop_rounds 3 ?_
   rw [rounds_succ];go_wp2;rw [rounds_succ];go_wp2;go_returns
   exact ⟨rfl,rfl⟩
  ·rw [e]
   clear e
   go_enter func94,ntmps94
   go_wp2
   refine wp_loop_rounds 3 ?_
   rw [rounds_succ];go_wp2;rw [rounds_succ];go_wp2;rw [rounds_succ];go_wp2;go_returns
   exact ⟨rfl,rfl⟩
theorem twhere_any (w:World) {m:Timers} (h:TimersAt w F p m) (d:Int):Calls prog 42 #[.pointer (some ⟨p,0,none⟩),.int .i64 d] w fun e w'=>e=.returned (.tuple #[.int .i64 ((mget m.wh d).getD 0),.bool (mget m.wh d).isSome])∧w=w':=by
 obtain ⟨sp,wb,rv,ptrs,c,h⟩:=h
 have c2:w.cell? ⟨p,2,none⟩=some (.map (some wb)):=h.head.cell 2
 have hl:=h.map.look underlying95 underlying3 (zero3 w) d
 clear h;generalize (mget m.wh d).getD 0=v at *;generalize (mget m.wh d).isSome=b at *
 go_enter func42,ntmps42
 go_wp2;go_returns
 exact ⟨rfl,rfl⟩
def timersWhen (m:Timers) (d:Int):Int × Bool :=
 match mget m.wh d with
 | none=>(0,false)
 | some v=>((mget (m.l.getD v.toNat noWheel).dues d).getD 0,(mget (m.l.getD v.toNat noWheel).dues d).isSome)
theorem twhen_any (w:World) {m:Timers} (h:TimersAt w F p m) (d:Int):Calls prog 350 #[.pointer (some ⟨p,0,none⟩),.int .i64 d] w fun e w'=>e=.returned (.tuple #[.int .i64 (timersWhen m d).1,.bool (timersWhen m d).2])∧w=w':=by
 have A:=Hd (twhere_any w h d);obtain ⟨sp,wb,rv,ptrs,c,h⟩:=h;obtain ⟨g,gc,rfl,hle,hg⟩:=h.open
 have c1:w.cell? ⟨p,1,none⟩=some (.slice (some ⟨g,0,none⟩) m.l.length gc):=h.head.cell 1
 unfold timersWhen
 cases hw:mget m.wh d with
 | none =>
  rw [hw] at A;clear h hg hw
  go_enter func350,ntmps350
  go_wp2_with fail;refine A.out.mono ?_;rintro e w1 ⟨rfl,rfl⟩;go_wp2;go_returns
  exact ⟨rfl,rfl⟩
 | some v =>
  rw [hw] at A
  have hok:=h.ok _ (mget_mem hw)
  dsimp only at hok
  obtain ⟨i,rfl⟩:∃ i:Nat,v=i:=⟨v.toNat,by omega⟩
  have hi:i < m.l.length:=by omega
  have B:=Hd (wwhen_any w (h.ls i hi) d)
  have ci:=hg i hi
  simp only [Int.toNat_natCast]
  generalize (mget (m.l.getD i noWheel).dues d).getD 0=v at *;generalize (mget (m.l.getD i noWheel).dues d).isSome=b at *;clear h hg hok hw;generalize m.l.length=n at *
  go_enter func350,ntmps350
  go_wp2_with fail;refine A.out.mono ?_;rintro e w1 ⟨rfl,rfl⟩;go_wp2_with fail;refine B.out.mono ?_;rintro e w1 ⟨rfl,rfl⟩;go_wp2;go_returns
  exact ⟨rfl,rfl⟩
def fewT (m:Timers):Prop:=∀ i,i < m.l.length→wheelMax (m.l.getD i noWheel)≤1000000
theorem fewT.ready {m:Timers} (h:fewT m) {i:Nat} (hi:i < m.l.length):(wheelReady (m.l.getD i noWheel)).length≤1099511627776:=by
 have h1:=h i hi
 have h2:=len_le_sum (m.l.getD i noWheel).ls 168
 unfold wheelMax at h1;unfold wheelReady
 omega
def timersDue (m:Timers) (cpu:Int):List Int:=if mayF m.l.length cpu≠0 then [] else wheelDue (m.l.getD cpu.toNat noWheel)
def timersReady (m:Timers) (cpu:Int):Bool:=decide (timersDue m cpu≠[])
theorem ne_nil_len {l:List Int}:decide (l≠[])=decide (0 < l.length):=by cases l <;> simp
theorem tready_any (w:World) {m:Timers} (h:TimersAt w F p m) (hf:fewT m) (cpu:Int):Calls prog 24 #[.pointer (some ⟨p,0,none⟩),.int .i64 cpu] w fun e w'=>e=.returned (.bool (timersReady m cpu))∧Below w.heap.size w w':=by
 have hb0:Below w.heap.size w (w.alloc (.cells #[.int .i64 cpu] 3)):=(Below.refl _ _).alloc (Nat.le_refl _) _
 replace h:=h.below ownW hb0
 have A:=Hd (tmay_one _ h cpu w.heap.size 1 (cell_at1 _ _ rfl))
 obtain ⟨sp,wb,rv,ptrs,c,h⟩:=h;obtain ⟨g,gc,rfl,hle,hg⟩:=h.open
 have c1:(w.alloc (.cells #[.int .i64 cpu] 3)).cell? ⟨p,1,none⟩=some (.slice (some ⟨g,0,none⟩) m.l.length gc):=h.head.cell 1
 unfold timersReady timersDue
 by_cases hm:mayF m.l.length cpu=0
 ·obtain ⟨i,rfl,hi⟩:=may_yes hm
  have B:=Hd (wdue_any _ (h.ls i hi) (hf.ready hi))
  have ci:=hg i hi
  rw [hm] at A
  simp only [hm,Int.toNat_natCast,ne_eq,not_true,if_false]
  rw [ne_nil_len];clear h hg hm hf;generalize wheelDue (m.l.getD i noWheel)=L at *;generalize m.l.length=n at *;replace hb0:=Hd hb0
  go_enter func24,ntmps24
  go_wp2_with fail;refine A.out.mono ?_;rintro e w1 ⟨rfl,rfl⟩;go_wp2_with fail;refine B.out.mono ?_;rintro e w1 ⟨⟨v,rfl,hv⟩,hb⟩
  obtain ⟨b,cap,rfl⟩:=RowAt.form hv
  replace hb:=Hd (hb0.out.trans (hb.mono hb0.out.size))
  clear hv;go_wp2;go_returns
  exact ⟨by simp,hb.out⟩
 ·have e:=may_no hm
  rw [e] at A
  simp only [e,ne_eq]
  clear h hg hm e hf;replace hb0:=Hd hb0
  go_enter func24,ntmps24
  go_wp2_with fail;refine A.out.mono ?_;rintro e w1 ⟨rfl,rfl⟩;go_wp2;go_returns
  exact ⟨by simp,hb0.out⟩
end Go.Proofs.YtiocbpabbjgkhaaGreatDoor
