/- Part 6 of the proof: contracts and plain laws, each under the conditions that it names. -/
import Derived.Test.YtiocbpabbjgkhaaGreatDoorPow05
set_option maxRecDepth 100000
set_option maxHeartbeats 20000000
set_option linter.unusedVariables false
set_option linter.unusedSimpArgs false
namespace Go.Proofs.YtiocbpabbjgkhaaGreatDoor
open Go.RowKit Go.Proofs.Tryz
variable {w w' : World} {F : Nat → Prop} {p : Nat}
theorem noPower (n:Nat):(List.replicate n (⟨false,false,0,0,0,0⟩:Core)).flatMap coreL=(madeCells #[.bool false,.bool false,.int .i64 0,.int .i64 0,.int .i64 0,.int .i64 0] (n*6)).toList:=by
 apply List.ext_getElem?
 intro k
 by_cases hk:k < n*6
 ·have hi:k / 6 < n:=by omega
  have:=flat_get coreL_len (List.replicate n (⟨false,false,0,0,0,0⟩:Core)) (k / 6) (k % 6) ⟨false,false,0,0,0,0⟩ (by simp [hi]) (Nat.mod_lt _ (by omega))
  rw [show k / 6*6+k % 6=k by omega] at this;rw [this]
  have hm:k % 6 < 6:=Nat.mod_lt _ (by omega)
  simp only [madeCells,Array.toList_map,Array.toList_range,List.getElem?_map,List.getElem?_range hk,Option.map_some]
  generalize k % 6=r at *
  rcases (by omega:r=0∨r=1∨r=2∨r=3∨r=4∨r=5) with rfl | rfl | rfl | rfl | rfl | rfl <;> rfl
 ·rw [List.getElem?_eq_none (by rw [flat_len coreL_len];simpa using hk),List.getElem?_eq_none (by simp [madeCells];omega)]
theorem coreZero:(prog.info? 32).map (fun i=>(i.zero,i.size,i.bytes))=some (some (.agg #[.bool false,.bool false,.int .i64 0,.int .i64 0,.int .i64 0,.int .i64 0]),6,40):=by kernel_rfl
def onCore:Core:=⟨true,false,0,0,0,0⟩
def someOn (k n:Nat):List Core:=List.replicate k onCore++List.replicate (n - k) noCore
theorem someOn_len {k n:Nat} (h:k≤n):(someOn k n).length=n:=by simp [someOn];omega
theorem someOn_get {k n:Nat} (h:k < n):(someOn k n)[k]? = some noCore:=by
 unfold someOn;rw [List.getElem?_append_right (by simp),List.length_replicate,Nat.sub_self,show n - k=(n - (k+1))+1 by omega,List.replicate_succ]
 rfl
theorem someOn_set {k n:Nat} (h:k < n):(someOn k n).set k onCore=someOn (k+1) n:=by
 unfold someOn;rw [List.set_append_right _ _ (by simp),List.length_replicate,Nat.sub_self,show n - k=(n - (k+1))+1 by omega,List.replicate_succ,List.set_cons_zero,List.replicate_succ' (n:=k)]
 simp
theorem someOn_all (n:Nat):someOn n n=List.replicate n onCore:=by simp [someOn]
theorem cnew_any (w:World) (cpus:Nat) (h1:1≤cpus) (h64:cpus≤64):Calls prog 70 #[.int .i64 cpus] w fun e w'=>(∃ p,e=.returned (.tuple #[.pointer (some ⟨p,0,none⟩),.int .i64 0])∧CoresAt w' (Plus w w' (fun _=>False)) p (List.replicate cpus onCore))∧Below w.heap.size w w':=by
 have hmk:=fun W=>make_any coreZero underlying237 (by omega) cpus (by omega) W
 go_enter func70,ntmps70
 go_wp2
 have H0:CoresAtQ ((w.alloc (.cells (madeCells (Value.agg #[.bool false,.bool false,.int .i64 0,.int .i64 0,.int .i64 0,.int .i64 0]).cells (cpus*6)) 32)).alloc (.cells #[.slice (some ⟨w.heap.size,0,none⟩) cpus cpus] 239)) (New w) (w.heap.size+1) w.heap.size (someOn 0 cpus):=by
  refine ⟨by rw [someOn_len (by omega)];exact Blk.at _ _ (by simp),?_,by unfold New;omega,Nat.le_refl _,by omega,by rw [someOn_len (by omega)];exact h1,by rw [someOn_len (by omega)];exact h64⟩
  have e:(someOn 0 cpus).flatMap coreL=(madeCells #[.bool false,.bool false,.int .i64 0,.int .i64 0,.int .i64 0,.int .i64 0] (cpus*6)).toList:=noPower cpus
  rw [e]
  exact (Blk.new _ _ _).alloc _
 have HB0:Below w.heap.size w ((w.alloc (.cells (madeCells (Value.agg #[.bool false,.bool false,.int .i64 0,.int .i64 0,.int .i64 0,.int .i64 0]).cells (cpus*6)) 32)).alloc (.cells #[.slice (some ⟨w.heap.size,0,none⟩) cpus cpus] 239)):=((Below.refl _ _).alloc (Nat.le_refl _) _).alloc (by simp) _
 have HZ0:w.heap.size+1 < ((w.alloc (.cells (madeCells (Value.agg #[.bool false,.bool false,.int .i64 0,.int .i64 0,.int .i64 0,.int .i64 0]).cells (cpus*6)) 32)).alloc (.cells #[.slice (some ⟨w.heap.size,0,none⟩) cpus cpus] 239)).heap.size:=by simp
 replace H0:=Hd H0;replace HB0:=Hd HB0;clear hmk
 go_loopw [21,5] (fun iv _ wr=>∃ k:Nat,iv=.int .i64 k∧k≤cpus∧Hid (CoresAtQ wr (New w) (w.heap.size+1) w.heap.size (someOn k cpus))∧Hid (Below w.heap.size w wr)) (fun iv _ _=>cpus - (intOf iv).toNat)
 case atStart=>exact ⟨0,rfl,by omega,H0,HB0⟩
 case round =>
  obtain ⟨k,rfl,hk,H,HB⟩:=hrel
  by_cases hlt:k < cpus
  ·have c0:wr.cell? ⟨w.heap.size+1,0,none⟩=some (.slice (some ⟨w.heap.size,0,none⟩) cpus cpus):=by have:=H.out.head.cell 0;rw [someOn_len hk] at this;exact this
   have k0:=H.out.cell (someOn_get hlt) 0 (by omega)
   have f0:wr.frozen? ⟨w.heap.size,k*6,none⟩=false:=H.out.row.frozen _
   simp [coreL,noCore] at k0
   go_wp2
   have h2:=H.out.set (someOn_get hlt) 0 (by omega) onCore (.bool true) rfl
   rw [someOn_set hlt] at h2;replace h2:=Hd h2;go_roundw
   case rel=>exact ⟨k+1,by go_num,hlt,h2,Hd (HB.out.setCell (p:=⟨w.heap.size,k*6+0,none⟩) (Nat.le_refl _) _)⟩
   case measure=>simp [intOf];omega
  ·have:k=cpus:=by omega
   subst this;go_wp2;go_returns;have H2:=H.out;rw [someOn_all] at H2;have hz:=H2.head.lt
   exact ⟨⟨_,rfl,w.heap.size,H2.head,H2.row,.inr ⟨by omega,hz⟩,.inr ⟨Nat.le_refl _,H2.row.lt⟩,H2.ne,H2.n0,H2.n64⟩,HB.out⟩
structure Stop where
 who:Nat
 held:Nat
structure StopAt (w:World) (F:Nat→Prop) (p:Nat) (s:Stop):Prop where
 head:Blk w p #[.int .u64 s.who,.int .u64 s.held] 142
 fp:F p
 lw:s.who < top64
 lh:s.held < top64
theorem StopAt.ch {F G:Nat→Prop} {s:Stop} (h:StopAt w F p s) (hc:Ch G w w') (hd:∀ b,F b→¬ G b):StopAt w' F p s:=⟨h.head.ch hc (hd _ h.fp),h.fp,h.lw,h.lh⟩
theorem StopAt.mono {F G:Nat→Prop} {s:Stop} (h:StopAt w F p s) (hd:∀ b,F b→G b):StopAt w G p s:=⟨h.head,hd _ h.fp,h.lw,h.lh⟩
theorem StopAt.below {s:Stop} (h:StopAt w F p s) (hb:Below w.heap.size w w'):StopAt w' F p s:=h.ch (Ch.off hb) (fun _ _ h=>h)
theorem StopAt.two {s:Stop} (h:StopAt w F p s) {a b:Nat} (ha:a < top64) (hb:b < top64):StopAt ((w.setCell ⟨p,0,none⟩ (.int .u64 a)).setCell ⟨p,1,none⟩ (.int .u64 b)) F p ⟨a,b⟩:=⟨(h.head.set 0 _).set 1 _,h.fp,ha,hb⟩
def stopLeft (s:Stop):Nat:=notF s.who s.held
theorem sleft_any (w:World) {s:Stop} (h:StopAt w F p s):Calls prog 101 #[.pointer (some ⟨p,0,none⟩)] w fun e w'=>e=.returned (.int .u64 (stopLeft s:Nat))∧∃ n,w'=w.drewN n:=by
 have c0:w.cell? ⟨p,0,none⟩=some (.int .u64 s.who):=h.head.cell 0
 have c1:w.cell? ⟨p,1,none⟩=some (.int .u64 s.held):=h.head.cell 1
 have A:=Hd (fun w=>not_any s.who s.held h.lw h.lh w);unfold stopLeft;clear h;generalize notF s.who s.held=x at *
 go_enter func101,ntmps101
 go_wp2
 go_quiet ((go_at_call 181;exact quiet_left (A.out _)))
 go_wp2;go_returns
 exact ⟨rfl,_,rfl⟩
def stopMust (s:Stop) (cpu:Int):Bool:=hasF (stopLeft s) cpu
theorem smust_any (w:World) {s:Stop} (h:StopAt w F p s) (cpu:Int):Calls prog 33 #[.pointer (some ⟨p,0,none⟩),.int .i64 cpu] w fun e w'=>e=.returned (.bool (stopMust s cpu))∧∃ n,w'=w.drewN n:=by
 have A:=Hd (sleft_any w h)
 have B:=Hd (fun w=>has_any (stopLeft s) (notF_lt _ _ h.lw) cpu w)
 unfold stopMust;clear h;generalize stopLeft s=x at *;generalize hasF x cpu=y at *
 go_enter func33,ntmps33
 go_wp2_with fail;refine A.out.mono ?_;rintro e w1 ⟨rfl,n,rfl⟩;go_wp2_with fail;refine (B.out _).mono ?_;rintro e w1 ⟨rfl,rfl⟩;go_wp2;go_returns
 exact ⟨rfl,_,rfl⟩
theorem sheld_any (w:World) {s:Stop} (h:StopAt w F p s) (cpu:Int):Calls prog 20 #[.pointer (some ⟨p,0,none⟩),.int .i64 cpu] w fun e w'=>e=.returned (.bool (hasF s.held cpu))∧w=w':=by
 have c1:w.cell? ⟨p,1,none⟩=some (.int .u64 s.held):=h.head.cell 1
 have B:=Hd (fun w=>has_any s.held h.lh cpu w);clear h;generalize hasF s.held cpu=y at *
 go_enter func20,ntmps20
 go_wp2_with fail;refine (B.out _).mono ?_;rintro e w1 ⟨rfl,rfl⟩;go_wp2;go_returns
 exact ⟨rfl,rfl⟩
def stopOn (s:Stop):Bool:=s.who != 0
theorem son_any (w:World) {s:Stop} (h:StopAt w F p s):Calls prog 351 #[.pointer (some ⟨p,0,none⟩)] w fun e w'=>e=.returned (.bool (stopOn s))∧w=w':=by
 have c0:w.cell? ⟨p,0,none⟩=some (.int .u64 s.who):=h.head.cell 0
 have HB:Hid (stopOn s=((s.who:Int) != 0)):=Hd (by unfold stopOn;rw [Bool.eq_iff_iff];simp)
 clear h;rw [HB.out]
 go_enter func351,ntmps351
 go_wp2;go_returns
 exact ⟨rfl,rfl⟩
def stopAck (s:Stop) (cpu:Int):Stop × Int:=if stopMust s cpu then (⟨s.who,s.held ||| oneF cpu⟩,0) else (s,6)
theorem sack_any (w:World) {s:Stop} (h:StopAt w F p s) (hF:∀ b,F b→b < w.heap.size) (cpu:Int):Calls prog 122 #[.pointer (some ⟨p,0,none⟩),.int .i64 cpu] w fun e w'=>e=.returned (.int .i64 (stopAck s cpu).2)∧StopAt w' F p (stopAck s cpu).1∧Ch F w w':=by
 have A:=Hd (smust_any w h cpu)
 have c1:w.cell? ⟨p,1,none⟩=some (.int .u64 s.held):=h.head.cell 1
 have f1:w.frozen? ⟨p,1,none⟩=false:=h.head.frozen 1
 have hlt:=h.head.lt;have HT:=Hd h;unfold stopAck
 cases hm:stopMust s cpu with
 | false =>
  rw [if_neg (by simp)];rw [hm] at A;clear hm h
  go_enter func122,ntmps122
  go_wp2_with fail;refine A.out.mono ?_;rintro e w1 ⟨rfl,n,rfl⟩;go_wp2;go_returns
  exact ⟨rfl,HT.out.below (belowN _ _),(Ch.refl _ _).drewN _⟩
 | true =>
  rw [if_pos rfl];rw [hm] at A;have B:=Hd (fun w b cap hc=>with_one s.held h.lh cpu w b cap hc)
  have hx:s.held ||| oneF cpu < top64:=Nat.or_lt_two_pow (n:=64) h.lh (oneF_lt _)
  clear hm h;generalize s.held ||| oneF cpu=x at *
  go_enter func122,ntmps122
  go_wp2_with fail;refine A.out.mono ?_;rintro e w1 ⟨rfl,n,rfl⟩;go_wp2_with fail
  refine (B.out _ _ _ (cell_at1 _ _ rfl)).mono ?_
  rintro e w1 ⟨rfl,rfl⟩
  have f1':=((HT.out.head.drewN n).alloc (.cells #[.int .i64 cpu] 3)).frozen 1
  have c1':((w.drewN n).alloc (.cells #[.int .i64 cpu] 3)).cell? ⟨p,1,none⟩=some (.int .u64 s.held):=((HT.out.head.drewN n).alloc (.cells #[.int .i64 cpu] 3)).cell 1
  go_wp2;go_returns
  refine ⟨rfl,⟨((HT.out.head.drewN n).alloc _).set 1 _,HT.out.fp,HT.out.lw,hx⟩,(((Ch.refl F w).drewN n).alloc _).setCell (p:=⟨p,1,none⟩) (fun _=>HT.out.fp) _⟩
def stopBegin (s:Stop) (m:Nat):Stop × Int:=if stopOn s then (s,7) else if m=0 then (s,2) else (⟨m,0⟩,0)
theorem sbegin_any (w:World) {s:Stop} (h:StopAt w F p s) (m:Nat) (hm:m < top64):Calls prog 352 #[.pointer (some ⟨p,0,none⟩),.int .u64 m] w fun e w'=>e=.returned (.int .i64 (stopBegin s m).2)∧StopAt w' F p (stopBegin s m).1∧Ch F w w'∧w'.heap.size=w.heap.size:=by
 have A:=Hd (son_any w h)
 have c0:w.cell? ⟨p,0,none⟩=some (.int .u64 s.who):=h.head.cell 0
 have c1:w.cell? ⟨p,1,none⟩=some (.int .u64 s.held):=h.head.cell 1
 have f0:w.frozen? ⟨p,0,none⟩=false:=h.head.frozen 0
 have f1:w.frozen? ⟨p,1,none⟩=false:=h.head.frozen 1
 have HT:=Hd h;clear h;unfold stopBegin;generalize stopOn s=on at *
 cases on with
 | true =>
  rw [if_pos rfl]
  go_enter func352,ntmps352
  go_wp2_with fail;refine A.out.mono ?_;rintro e w1 ⟨rfl,rfl⟩;go_wp2;go_returns
  exact ⟨rfl,HT.out,Ch.refl _ _,rfl⟩
 | false =>
  rw [if_neg (by simp)]
  by_cases h0:m=0
  ·subst h0
   rw [if_pos rfl]
   go_enter func352,ntmps352
   go_wp2_with fail;refine A.out.mono ?_;rintro e w1 ⟨rfl,rfl⟩;go_wp2;go_returns
   exact ⟨rfl,HT.out,Ch.refl _ _,rfl⟩
  ·rw [if_neg h0]
   have hb:((m:Int) == 0)=false:=by simpa using h0
   clear h0
   go_enter func352,ntmps352
   go_wp2_with fail;refine A.out.mono ?_;rintro e w1 ⟨rfl,rfl⟩;go_wp2;go_returns
   exact ⟨rfl,HT.out.two hm (by decide),((Ch.refl _ _).setCell (p:=⟨p,0,none⟩) (fun _=>HT.out.fp) _).setCell (p:=⟨p,1,none⟩) (fun _=>HT.out.fp) _,by simp⟩
def stopFree (s:Stop):Stop × Int:=if stopOn s then (⟨0,0⟩,0) else (s,6)
theorem sfree_any (w:World) {s:Stop} (h:StopAt w F p s):Calls prog 354 #[.pointer (some ⟨p,0,none⟩)] w fun e w'=>e=.returned (.int .i64 (stopFree s).2)∧StopAt w' F p (stopFree s).1∧Ch F w w'∧w'.heap.size=w.heap.size:=by
 have A:=Hd (son_any w h)
 have c0:w.cell? ⟨p,0,none⟩=some (.int .u64 s.who):=h.head.cell 0
 have c1:w.cell? ⟨p,1,none⟩=some (.int .u64 s.held):=h.head.cell 1
 have f0:w.frozen? ⟨p,0,none⟩=false:=h.head.frozen 0
 have f1:w.frozen? ⟨p,1,none⟩=false:=h.head.frozen 1
 have HT:=Hd h;clear h;unfold stopFree;generalize stopOn s=on at *
 cases on with
 | true =>
  rw [if_pos rfl]
  go_enter func354,ntmps354
  go_wp2_with fail;refine A.out.mono ?_;rintro e w1 ⟨rfl,rfl⟩;go_wp2;go_returns
  exact ⟨rfl,HT.out.two (by decide) (by decide),((Ch.refl _ _).setCell (p:=⟨p,0,none⟩) (fun _=>HT.out.fp) _).setCell (p:=⟨p,1,none⟩) (fun _=>HT.out.fp) _,by simp⟩
 | false =>
  rw [if_neg (by simp)]
  go_enter func354,ntmps354
  go_wp2_with fail;refine A.out.mono ?_;rintro e w1 ⟨rfl,rfl⟩;go_wp2;go_returns
  exact ⟨rfl,HT.out,Ch.refl _ _,rfl⟩
def stopReady (s:Stop):Bool:=stopOn s && stopLeft s == 0
theorem sready_any (w:World) {s:Stop} (h:StopAt w F p s):Calls prog 353 #[.pointer (some ⟨p,0,none⟩)] w fun e w'=>e=.returned (.bool (stopReady s))∧∃ n,w'=w.drewN n:=by
 have A:=Hd (son_any w h);have B:=Hd (sleft_any w h);clear h;unfold stopReady;generalize stopOn s=on at *
 have HB:Hid ((stopLeft s == 0)=((stopLeft s:Int) == 0)):=Hd (by rw [Bool.eq_iff_iff];simp)
 generalize stopLeft s=x at *
 cases on with
 | true =>
  rw [HB.out]
  go_enter func353,ntmps353
  go_wp2_with fail;refine A.out.mono ?_;rintro e w1 ⟨rfl,rfl⟩;go_wp2_with fail;refine B.out.mono ?_;rintro e w1 ⟨rfl,n,rfl⟩;go_wp2;go_returns
  exact ⟨by simp,_,rfl⟩
 | false =>
  go_enter func353,ntmps353
  go_wp2_with fail;refine A.out.mono ?_;rintro e w1 ⟨rfl,rfl⟩;go_wp2;go_returns
  exact ⟨rfl,0,rfl⟩
structure Run where
 stages:Int
 done:Int
 back:Bool
structure RunAt (w:World) (F:Nat→Prop) (p:Nat) (s:Run):Prop where
 head:Blk w p #[.int .i64 s.stages,.int .i64 s.done,.bool s.back] 361
 fp:F p
theorem RunAt.ch {F G:Nat→Prop} {s:Run} (h:RunAt w F p s) (hc:Ch G w w') (hd:∀ b,F b→¬ G b):RunAt w' F p s:=⟨h.head.ch hc (hd _ h.fp),h.fp⟩
theorem RunAt.mono {F G:Nat→Prop} {s:Run} (h:RunAt w F p s) (hd:∀ b,F b→G b):RunAt w G p s:=⟨h.head,hd _ h.fp⟩
theorem RunAt.below {s:Run} (h:RunAt w F p s) (hb:Below w.heap.size w w'):RunAt w' F p s:=h.ch (Ch.off hb) (fun _ _ h=>h)
theorem run_new (w:World) (n:Int) (h1:1≤n) (h64:n≤64):Calls prog 243 #[.int .i64 n] w fun e w'=>(∃ p,e=.returned (.tuple #[.pointer (some ⟨p,0,none⟩),.int .i64 0])∧RunAt w' (Plus w w' (fun _=>False)) p ⟨n,0,false⟩)∧Below w.heap.size w w':=by
 go_enter func243,ntmps243
 go_wp2;go_returns
 exact ⟨⟨_,rfl,Blk.at _ _ rfl,.inr (by simp)⟩,(Below.refl _ _).alloc (Nat.le_refl _) _⟩
def runOver (s:Run):Bool:=(s.back && s.done == 0) || (!s.back && s.done == s.stages)
def runAt (s:Run):Int:=if runOver s then 0 else if s.back then wrap64 (s.done - 1) else s.done
theorem rat_any (w:World) {s:Run} (h:RunAt w F p s):Calls prog 260 #[.pointer (some ⟨p,0,none⟩)] w fun e w'=>e=.returned (.tuple #[.int .i64 (runAt s),.bool s.back,.bool (runOver s)])∧∃ n,w'=w.drewN n:=by
 have c0:w.cell? ⟨p,0,none⟩=some (.int .i64 s.stages):=h.head.cell 0
 have c1:w.cell? ⟨p,1,none⟩=some (.int .i64 s.done):=h.head.cell 1
 have c2:w.cell? ⟨p,2,none⟩=some (.bool s.back):=h.head.cell 2
 clear h;obtain ⟨n,d,b⟩:=s;unfold runAt runOver;dsimp only at *
 cases b with
 | true =>
  by_cases hd:d=0
  ·subst hd
   go_enter func260,ntmps260
   go_wp2;go_quiet (fail);go_wp2;go_quiet (fail);go_wp2
   all_goals
    refine bodyPost_ret (v:=.tuple #[.int .i64 0,.bool true,.bool true]) (by simp [results,results260,go_sem]) rfl ⟨by simp,_,rfl⟩
  ·have hb:(d == 0)=false:=by simpa using hd
   clear hd
   go_enter func260,ntmps260
   go_wp2;go_quiet (fail);go_wp2
   all_goals
    refine bodyPost_ret (v:=.tuple #[.int .i64 (wrap64 (d - 1)),.bool true,.bool false]) (by simp [results,results260,go_sem]) rfl ⟨by simp [hb],_,rfl⟩
 | false =>
  by_cases hd:d=n
  ·subst hd
   go_enter func260,ntmps260
   go_wp2;go_quiet (fail);go_wp2;go_quiet (fail);go_wp2
   all_goals
    refine bodyPost_ret (v:=.tuple #[.int .i64 0,.bool false,.bool true]) (by simp [results,results260,go_sem]) rfl ⟨by simp,_,rfl⟩
  ·have hb:(d == n)=false:=by simpa using hd
   clear hd
   go_enter func260,ntmps260
   go_wp2;go_quiet (fail);go_wp2
   all_goals
    refine bodyPost_ret (v:=.tuple #[.int .i64 d,.bool false,.bool false]) (by simp [results,results260,go_sem]) rfl ⟨by simp [hb],_,rfl⟩
def runFail (s:Run):Run × Int:=if s.back || runOver s then (s,6) else (⟨s.stages,s.done,true⟩,0)
theorem rfail_any (w:World) {s:Run} (h:RunAt w F p s):Calls prog 261 #[.pointer (some ⟨p,0,none⟩)] w fun e w'=>e=.returned (.int .i64 (runFail s).2)∧RunAt w' F p (runFail s).1∧Ch F w w'∧w'.heap.size=w.heap.size:=by
 have A:=Hd (rat_any w h)
 have c2:w.cell? ⟨p,2,none⟩=some (.bool s.back):=h.head.cell 2
 have f2:w.frozen? ⟨p,2,none⟩=false:=h.head.frozen 2
 have HT:=Hd h;clear h;unfold runFail;generalize runOver s=o at *;generalize runAt s=x at *
 cases hb:s.back with
 | true =>
  rw [hb] at A c2;clear hb
  cases o
  all_goals
   go_enter func261,ntmps261
   go_wp2_with fail;refine A.out.mono ?_;rintro e w1 ⟨rfl,n,rfl⟩;go_wp2;go_returns
   exact ⟨rfl,HT.out.below (belowN _ _),(Ch.refl _ _).drewN _,rfl⟩
 | false =>
  rw [hb] at A c2;clear hb
  cases o
  ·go_enter func261,ntmps261
   go_wp2_with fail;refine A.out.mono ?_;rintro e w1 ⟨rfl,n,rfl⟩;go_wp2;go_returns
   exact ⟨rfl,⟨(HT.out.head.drewN n).set 2 _,HT.out.fp⟩,((Ch.refl _ _).drewN n).setCell (p:=⟨p,2,none⟩) (fun _=>HT.out.fp) _,by simp⟩
  ·go_enter func261,ntmps261
   go_wp2_with fail;refine A.out.mono ?_;rintro e w1 ⟨rfl,n,rfl⟩;go_wp2;go_returns
   exact ⟨rfl,HT.out.below (belowN _ _),(Ch.refl _ _).drewN _,rfl⟩
def runDone (s:Run):Run × Int:=if runOver s then (s,6) else (⟨s.stages,if s.back then wrap64 (s.done - 1) else wrap64 (s.done+1),s.back⟩,0)
theorem rdone_any (w:World) {s:Run} (h:RunAt w F p s):Calls prog 267 #[.pointer (some ⟨p,0,none⟩)] w fun e w'=>e=.returned (.int .i64 (runDone s).2)∧RunAt w' F p (runDone s).1∧Ch F w w'∧w'.heap.size=w.heap.size:=by
 have A:=Hd (rat_any w h)
 have c1:w.cell? ⟨p,1,none⟩=some (.int .i64 s.done):=h.head.cell 1
 have f1:w.frozen? ⟨p,1,none⟩=false:=h.head.frozen 1
 have HT:=Hd h;clear h;unfold runDone;generalize runOver s=o at *;generalize runAt s=x at *
 cases o with
 | true =>
  cases hb:s.back
  all_goals
   rw [hb] at A;clear hb
   go_enter func267,ntmps267
   go_wp2_with fail;refine A.out.mono ?_;rintro e w1 ⟨rfl,n,rfl⟩;go_wp2;go_returns
   exact ⟨rfl,HT.out.below (belowN _ _),(Ch.refl _ _).drewN _,rfl⟩
 | false =>
  cases hb:s.back with
  | true =>
   rw [hb] at A;replace hb:=Hd hb
   go_enter func267,ntmps267
   go_wp2_with fail;refine A.out.mono ?_;rintro e w1 ⟨rfl,n,rfl⟩;go_wp2;go_returns
   have h3:=(HT.out.head.drewN n).set 1 (.int .i64 (wrap64 (s.done - 1)))
   rw [hb.out] at h3
   exact ⟨rfl,⟨h3,HT.out.fp⟩,((Ch.refl _ _).drewN n).setCell (p:=⟨p,1,none⟩) (fun _=>HT.out.fp) _,by simp⟩
  | false =>
   rw [hb] at A;replace hb:=Hd hb
   go_enter func267,ntmps267
   go_wp2_with fail;refine A.out.mono ?_;rintro e w1 ⟨rfl,n,rfl⟩;go_wp2;go_returns
   have h3:=(HT.out.head.drewN n).set 1 (.int .i64 (wrap64 (s.done+1)))
   rw [hb.out] at h3
   exact ⟨rfl,⟨h3,HT.out.fp⟩,((Ch.refl _ _).drewN n).setCell (p:=⟨p,1,none⟩) (fun _=>HT.out.fp) _,by simp⟩
def runWhy (s:Run):Int:=if !runOver s then 7 else if s.back then 11 else 0
theorem rwhy_any (w:World) {s:Run} (h:RunAt w F p s):Calls prog 268 #[.pointer (some ⟨p,0,none⟩)] w fun e w'=>e=.returned (.int .i64 (runWhy s))∧∃ n,w'=w.drewN n:=by
 have A:=Hd (rat_any w h);clear h;unfold runWhy;generalize runOver s=o at *;generalize runAt s=x at *;generalize s.back=b at *
 cases o <;> cases b
 all_goals
  go_enter func268,ntmps268
  go_wp2_with fail;refine A.out.mono ?_;rintro e w1 ⟨rfl,n,rfl⟩;go_wp2;go_returns
  exact ⟨rfl,_,rfl⟩
structure Req where
 run:Run
 up:Bool
 cpu:Int
 who:Int
 told:Bool
structure Desk where
 req:Option Req
 planned:Option (List (Int × Bool))
def encB (m:List (Int × Bool)):List (Int × Value):=m.map fun x=>(x.1,Value.bool x.2)
def reqCells (sp:Nat) (r:Req):Array Value:=#[.pointer (some ⟨sp,0,none⟩),.bool r.up,.int .i64 r.cpu,.int .i64 r.who,.bool r.told]
def ReqAt (w:World) (F:Nat→Prop) (c:Nat→Nat) (rv:Value):Option Req→Prop
 | none=>rv=.pointer none
 | some r=>∃ rp sp,rv=.pointer (some ⟨rp,0,none⟩)∧Blk w rp (reqCells sp r) 190∧Col F c 1 rp∧RunAt w (Col F c 2) sp r.run
def PlanAt (w:World) (F:Nat→Prop) (c:Nat→Nat) (mv:Value):Option (List (Int × Bool))→Prop
 | none=>mv=.map none
 | some m=>∃ mb,mv=.map (some mb)∧MapAt w mb (encB m)∧Col F c 3 mb
structure DeskAtQ (w:World) (F:Nat→Prop) (p:Nat) (rv mv:Value) (c:Nat→Nat) (d:Desk):Prop where
 head:Blk w p #[rv,mv] 146
 fp:Col F c 0 p
 req:ReqAt w F c rv d.req
 plan:PlanAt w F c mv d.planned
 lt:∀ b,F b→b < w.heap.size
def DeskAt (w:World) (F:Nat→Prop) (p:Nat) (d:Desk):Prop:=∃ rv mv c,DeskAtQ w F p rv mv c d
theorem ReqAt.ch {F G:Nat→Prop} {c:Nat→Nat} {rv:Value} {r:Option Req} (h:ReqAt w F c rv r) (hc:Ch G w w') (h1:∀ b,Col F c 1 b→¬ G b) (h2:∀ b,Col F c 2 b→¬ G b):ReqAt w' F c rv r:=by
 cases r with
 | none=>exact h
 | some r =>
  obtain ⟨rp,sp,a,b,d,e⟩:=h
  exact ⟨rp,sp,a,b.ch hc (h1 _ d),d,e.ch hc h2⟩
theorem ReqAt.mono {F G:Nat→Prop} {c c':Nat→Nat} {rv:Value} {r:Option Req} (h:ReqAt w F c rv r) (h1:∀ i b,Col F c i b→Col G c' i b):ReqAt w G c' rv r:=by
 cases r with
 | none=>exact h
 | some r =>
  obtain ⟨rp,sp,a,b,d,e⟩:=h
  exact ⟨rp,sp,a,b,h1 _ _ d,e.mono (h1 2)⟩
theorem PlanAt.ch {F G:Nat→Prop} {c:Nat→Nat} {mv:Value} {m:Option (List (Int × Bool))} (h:PlanAt w F c mv m) (hc:Ch G w w') (h1:∀ b,Col F c 3 b→¬ G b):PlanAt w' F c mv m:=by
 cases m with
 | none=>exact h
 | some m =>
  obtain ⟨mb,a,b,d⟩:=h
  exact ⟨mb,a,b.ch hc (h1 _ d),d⟩
theorem PlanAt.mono {F G:Nat→Prop} {c c':Nat→Nat} {mv:Value} {m:Option (List (Int × Bool))} (h:PlanAt w F c mv m) (h1:∀ i b,Col F c i b→Col G c' i b):PlanAt w G c' mv m:=by
 cases m with
 | none=>exact h
 | some m =>
  obtain ⟨mb,a,b,d⟩:=h
  exact ⟨mb,a,b,h1 _ _ d⟩
theorem DeskAt.ch {F G:Nat→Prop} {d:Desk} (h:DeskAt w F p d) (hc:Ch G w w') (hd:∀ b,F b→¬ G b):DeskAt w' F p d:=by
 obtain ⟨rv,mv,c,h⟩:=h
 exact ⟨rv,mv,c,h.head.ch hc (hd _ h.fp.1),h.fp,h.req.ch hc (fun b hb=>hd b hb.1) (fun b hb=>hd b hb.1),h.plan.ch hc (fun b hb=>hd b hb.1),fun b hb=>Nat.lt_of_lt_of_le (h.lt b hb) hc.size⟩
theorem DeskAt.mono {F G:Nat→Prop} {d:Desk} (h:DeskAt w F p d) (hd:∀ b,F b→G b) (hG:∀ b,G b→b < w.heap.size):DeskAt w G p d:=by
 obtain ⟨rv,mv,c,h⟩:=h
 exact ⟨rv,mv,c,h.head,⟨hd _ h.fp.1,h.fp.2⟩,h.req.mono (fun i b hb=>⟨hd b hb.1,hb.2⟩),h.plan.mono (fun i b hb=>⟨hd b hb.1,hb.2⟩),hG⟩
theorem DeskAt.below {d:Desk} (h:DeskAt w F p d) (hb:Below w.heap.size w w'):DeskAt w' F p d:=h.ch (Ch.off hb) (fun _ _ h=>h)
theorem DeskAt.ltF {d:Desk} (h:DeskAt w F p d):∀ b,F b→b < w.heap.size:=by obtain ⟨rv,mv,c,h⟩:=h;exact h.lt
def deskBusy (d:Desk):Bool:=d.req.isSome
theorem dbusy_any (w:World) {d:Desk} (h:DeskAt w F p d):Calls prog 35 #[.pointer (some ⟨p,0,none⟩)] w fun e w'=>e=.returned (.bool (deskBusy d))∧w=w':=by
 obtain ⟨rv,mv,c,h⟩:=h
 have c0:w.cell? ⟨p,0,none⟩=some rv:=h.head.cell 0
 have hr:=h.req;unfold deskBusy
 cases hd:d.req with
 | none =>
  rw [hd] at hr
  have hr':rv=.pointer none:=hr
  subst hr';clear hr h hd
  go_enter func35,ntmps35
  go_wp2;go_returns
  exact ⟨rfl,rfl⟩
 | some r =>
  rw [hd] at hr;obtain ⟨rp,sp,rfl,-⟩:=hr;clear h hd
  go_enter func35,ntmps35
  go_wp2;go_returns
  exact ⟨rfl,rfl⟩
def deskUp (d:Desk):Bool:=match d.req with | none=>false | some r=>r.up
def deskCpu (d:Desk):Int:=match d.req with | none=>0 | some r=>r.cpu
def deskBy (d:Desk):Int:=match d.req with | none=>0 | some r=>r.who
def deskOver (d:Desk):Bool:=match d.req with | none=>false | some r=>runOver r.run
def deskMay (d:Desk):Int:=match d.req with | none=>12 | some r=>if runOver r.run then 6 else 0
theorem DeskAtQ.none {rv mv:Value} {c:Nat→Nat} {d:Desk} (h:DeskAtQ w F p rv mv c d) (hd:d.req=.none):w.cell? ⟨p,0,.none⟩=some (.pointer .none):=by
 have hr:=h.req;rw [hd] at hr
 have hr':rv=.pointer .none:=hr
 subst hr'
 exact h.head.cell 0
theorem DeskAtQ.some {rv mv:Value} {c:Nat→Nat} {d:Desk} (h:DeskAtQ w F p rv mv c d) {r:Req} (hd:d.req=.some r):∃ rp sp,rv=.pointer (.some ⟨rp,0,.none⟩)∧w.cell? ⟨p,0,.none⟩=.some (.pointer (.some ⟨rp,0,.none⟩))∧Blk w rp (reqCells sp r) 190∧Col F c 1 rp∧RunAt w (Col F c 2) sp r.run:=by
 have hr:=h.req;rw [hd] at hr;obtain ⟨rp,sp,rfl,a,b,e⟩:=hr
 exact ⟨rp,sp,rfl,h.head.cell 0,a,b,e⟩
theorem dup_any (w:World) {d:Desk} (h:DeskAt w F p d):Calls prog 262 #[.pointer (some ⟨p,0,none⟩)] w fun e w'=>e=.returned (.bool (deskUp d))∧w=w':=by
 have A:=Hd (dbusy_any w h);obtain ⟨rv,mv,c,h⟩:=h;unfold deskUp;unfold deskBusy at A
 cases hd:d.req with
 | none =>
  rw [hd] at A;clear h hd
  go_enter func262,ntmps262
  go_wp2_with fail;refine A.out.mono ?_;rintro e w1 ⟨rfl,rfl⟩;go_wp2;go_returns
  exact ⟨rfl,rfl⟩
 | some r =>
  obtain ⟨rp,sp,-,c0,hb,-,-⟩:=h.some hd
  have k1:w.cell? ⟨rp,1,none⟩=some (.bool r.up):=hb.cell 1
  rw [hd] at A;clear h hd hb
  go_enter func262,ntmps262
  go_wp2_with fail;refine A.out.mono ?_;rintro e w1 ⟨rfl,rfl⟩;go_wp2;go_returns
  exact ⟨rfl,rfl⟩
theorem dcpu_any (w:World) {d:Desk} (h:DeskAt w F p d):Calls prog 190 #[.pointer (some ⟨p,0,none⟩)] w fun e w'=>e=.returned (.int .i64 (deskCpu d))∧w=w':=by
 have A:=Hd (dbusy_any w h);obtain ⟨rv,mv,c,h⟩:=h;unfold deskCpu;unfold deskBusy at A
 cases hd:d.req with
 | none =>
  rw [hd] at A;clear h hd
  go_enter func190,ntmps190
  go_wp2_with fail;refine A.out.mono ?_;rintro e w1 ⟨rfl,rfl⟩;go_wp2;go_returns
  exact ⟨rfl,rfl⟩
 | some r =>
  obtain ⟨rp,sp,-,c0,hb,-,-⟩:=h.some hd
  have k1:w.cell? ⟨rp,2,none⟩=some (.int .i64 r.cpu):=hb.cell 2
  rw [hd] at A;clear h hd hb
  go_enter func190,ntmps190
  go_wp2_with fail;refine A.out.mono ?_;rintro e w1 ⟨rfl,rfl⟩;go_wp2;go_returns
  exact ⟨rfl,rfl⟩
theorem dby_any (w:World) {d:Desk} (h:DeskAt w F p d):Calls prog 36 #[.pointer (some ⟨p,0,none⟩)] w fun e w'=>e=.returned (.int .i64 (deskBy d))∧w=w':=by
 have A:=Hd (dbusy_any w h);obtain ⟨rv,mv,c,h⟩:=h;unfold deskBy;unfold deskBusy at A
 cases hd:d.req with
 | none =>
  rw [hd] at A;clear h hd
  go_enter func36,ntmps36
  go_wp2_with fail;refine A.out.mono ?_;rintro e w1 ⟨rfl,rfl⟩;go_wp2;go_returns
  exact ⟨rfl,rfl⟩
 | some r =>
  obtain ⟨rp,sp,-,c0,hb,-,-⟩:=h.some hd
  have k1:w.cell? ⟨rp,3,none⟩=some (.int .i64 r.who):=hb.cell 3
  rw [hd] at A;clear h hd hb
  go_enter func36,ntmps36
  go_wp2_with fail;refine A.out.mono ?_;rintro e w1 ⟨rfl,rfl⟩;go_wp2;go_returns
  exact ⟨rfl,rfl⟩
theorem dover_any (w:World) {d:Desk} (h:DeskAt w F p d):Calls prog 194 #[.pointer (some ⟨p,0,none⟩)] w fun e w'=>e=.returned (.bool (deskOver d))∧∃ n,w'=w.drewN n:=by
 have A:=Hd (dbusy_any w h);obtain ⟨rv,mv,c,h⟩:=h;unfold deskOver;unfold deskBusy at A
 cases hd:d.req with
 | none =>
  rw [hd] at A;clear h hd
  go_enter func194,ntmps194
  go_wp2_with fail;refine A.out.mono ?_;rintro e w1 ⟨rfl,rfl⟩;go_wp2;go_returns
  exact ⟨rfl,0,rfl⟩
 | some r =>
  obtain ⟨rp,sp,-,c0,hb,-,hr⟩:=h.some hd
  have k0:w.cell? ⟨rp,0,none⟩=some (.pointer (some ⟨sp,0,none⟩)):=hb.cell 0
  have B:=Hd (rat_any w hr);rw [hd] at A;clear h hd hb hr
  go_enter func194,ntmps194
  go_wp2_with fail;refine A.out.mono ?_;rintro e w1 ⟨rfl,rfl⟩;go_wp2_with fail;refine B.out.mono ?_;rintro e w1 ⟨rfl,n,rfl⟩;go_wp2;go_returns
  exact ⟨rfl,n,rfl⟩
theorem dmay_any (w:World) {d:Desk} (h:DeskAt w F p d):Calls prog 259 #[.pointer (some ⟨p,0,none⟩)] w fun e w'=>e=.returned (.int .i64 (deskMay d))∧∃ n,w'=w.drewN n:=by
 have A:=Hd (dover_any w h);obtain ⟨rv,mv,c,h⟩:=h;unfold deskMay;unfold deskOver at A
 cases hd:d.req with
 | none =>
  have c0:=h.none hd
  rw [hd] at A;clear h hd
  go_enter func259,ntmps259
  go_wp2;go_returns
  exact ⟨rfl,0,rfl⟩
 | some r =>
  obtain ⟨rp,sp,-,c0,hb,-,hr⟩:=h.some hd
  rw [hd] at A;clear h hd hb hr;dsimp only at A ⊢;generalize runOver r.run=o at *
  cases o
  all_goals
   go_enter func259,ntmps259
   go_wp2_with fail;refine A.out.mono ?_;rintro e w1 ⟨rfl,n,rfl⟩;go_wp2;go_returns
   exact ⟨rfl,n,rfl⟩
def coreF (n:Int):Bool:=decide (0≤n) && decide (n < 64)
theorem core_any (n:Int) (w:World):Calls prog 242 #[.int .i64 n] w fun e w'=>e=.returned (.bool (coreF n))∧w=w':=by
 unfold coreF
 by_cases h0:0≤n
 ·by_cases h1:n < 64
  ·have e1:decide (n < 64)=true:=by simpa using h1
   rw [decide_eq_true h0,e1]
   go_enter func242,ntmps242
   go_wp2;go_returns
   exact ⟨rfl,rfl⟩
  ·have e1:decide (n < 64)=false:=by simpa using h1
   rw [decide_eq_true h0,e1]
   go_enter func242,ntmps242
   go_wp2;go_returns
   exact ⟨rfl,rfl⟩
 ·have e0:decide (0≤n)=false:=by simpa using h0
  rw [e0]
  go_enter func242,ntmps242
  go_wp2;go_returns
  exact ⟨rfl,rfl⟩
def upStages (up:Bool):Int:=if up then 4 else 10
def deskBegin (d:Desk) (up:Bool) (cpu who:Int):Desk × Int :=
 match d.req with
 | .some _=>(d,7)
 | .none=>if coreF cpu && coreF who then (if cpu=who then (d,2) else (⟨.some ⟨⟨upStages up,0,false⟩,up,cpu,who,false⟩,d.planned⟩,0)) else (d,3)
theorem DeskAtQ.at {rv mv:Value} {c:Nat→Nat} {d:Desk} (h:DeskAtQ w F p rv mv c d):DeskAt w F p d:=⟨rv,mv,c,h⟩
open Classical in
theorem DeskAtQ.fresh {p rp sp:Nat} {rv mv:Value} {c:Nat→Nat} {d:Desk} (h:DeskAtQ w F p rv mv c d) {r:Req} (hh:Blk w' p #[.pointer (.some ⟨rp,0,.none⟩),mv] 146) (hr:Blk w' rp (reqCells sp r) 190) (hs:RunAt w' (fun b=>w.heap.size≤b∧b < w'.heap.size∧b≠rp) sp r.run) (hrp:w.heap.size≤rp) (hc:Ch (Col F c 0) w w'):DeskAt w' (Plus w w' F) p ⟨.some r,d.planned⟩:=by
 refine ⟨_,_,fun b=>if b < w.heap.size then (if c b=1∨c b=2 then 9 else c b) else if b=rp then 1 else 2,hh,⟨.inl h.fp.1,?_⟩,⟨rp,sp,rfl,hr,⟨.inr ⟨hrp,hr.lt⟩,?_⟩,hs.mono ?_⟩,?_,?_⟩
 ·have:=h.lt _ h.fp.1
  simp [this,h.fp.2]
 ·simp [Nat.not_lt.2 hrp]
 ·rintro b ⟨h1,h2,h3⟩
  exact ⟨.inr ⟨h1,h2⟩,by simp [Nat.not_lt.2 h1,h3]⟩
 ·have hp:PlanAt w' F c mv d.planned:=h.plan.ch hc (Col.apart (by omega))
  cases hd:d.planned with
  | none=>rw [hd] at hp;exact hp
  | some m =>
   rw [hd] at hp;obtain ⟨mb,e1,e2,e3⟩:=hp
   exact ⟨mb,e1,e2,.inl e3.1,by have:=h.lt _ e3.1;simp [this,e3.2]⟩
 ·exact Plus.lt h.lt hc.size
theorem dbegin_any (w:World) {d:Desk} (h:DeskAt w F p d) (up:Bool) (cpu who:Int):Calls prog 165 #[.pointer (some ⟨p,0,none⟩),.bool up,.int .i64 cpu,.int .i64 who] w fun e w'=>e=.returned (.int .i64 (deskBegin d up cpu who).2)∧DeskAt w' (Plus w w' F) p (deskBegin d up cpu who).1∧Ch F w w':=by
 have HT:=Hd h;obtain ⟨rv,mv,c,h⟩:=h;unfold deskBegin
 cases hd:d.req with
 | some r =>
  obtain ⟨rp,sp,-,c0,-,-,-⟩:=h.some hd
  clear h hd
  go_enter func165,ntmps165
  go_wp2;go_returns
  exact ⟨rfl,by rw [Plus.self];exact HT.out,Ch.refl _ _⟩
 | none =>
  have c0:=h.none hd
  have f0:w.frozen? ⟨p,0,none⟩=false:=h.head.frozen 0
  have A:=Hd (core_any cpu w);have B:=Hd (core_any who w);have H:=Hd h;clear h hd;dsimp only;generalize coreF cpu=a at *;generalize coreF who=b at *
  cases a with
  | false =>
   go_enter func165,ntmps165
   go_wp2_with fail;refine A.out.mono ?_;rintro e w1 ⟨rfl,rfl⟩;go_wp2;go_returns
   exact ⟨rfl,by rw [Plus.self];exact HT.out,Ch.refl _ _⟩
  | true =>
   cases b with
   | false =>
    go_enter func165,ntmps165
    go_wp2_with fail;refine A.out.mono ?_;rintro e w1 ⟨rfl,rfl⟩;go_wp2_with fail;refine B.out.mono ?_;rintro e w1 ⟨rfl,rfl⟩;go_wp2;go_returns
    exact ⟨rfl,by rw [Plus.self];exact HT.out,Ch.refl _ _⟩
   | true =>
    by_cases hq:cpu=who
    ·subst hq
     go_enter func165,ntmps165
     go_wp2_with fail;refine A.out.mono ?_;rintro e w1 ⟨rfl,rfl⟩;go_wp2_with fail;refine B.out.mono ?_;rintro e w1 ⟨rfl,rfl⟩;go_wp2;go_returns
     simp only [Bool.and_self,if_true]
     exact ⟨rfl,by rw [Plus.self];exact HT.out,Ch.refl _ _⟩
    ·have hq':(cpu == who)=false:=by simpa using hq
     have D:=Hd (run_new w (upStages up) (by unfold upStages;split <;> omega) (by unfold upStages;split <;> omega))
     simp only [Bool.and_self,if_true,if_neg hq]
     clear hq
     unfold upStages at D ⊢
     cases up
     ·simp only [if_true,if_false,Bool.false_eq_true] at D ⊢
      go_enter func165,ntmps165
      go_wp2_with fail;refine A.out.mono ?_;rintro e w1 ⟨rfl,rfl⟩;go_wp2_with fail;refine B.out.mono ?_;rintro e w1 ⟨rfl,rfl⟩;go_wp2_with fail;refine D.out.mono ?_;rintro e w1 ⟨⟨sp,rfl,hs⟩,hb⟩;have HS:=Hd hs;have HB:=Hd hb
      have hB:=H.out.head.ch (Ch.off hb) (fun h=>h)
      have c0':∀ o,(w1.alloc o).cell? ⟨p,0,none⟩=some (.pointer none):=fun o=>by have:=keepcell hb c0;rwa [(hB.alloc o).cell,← hB.cell]
      have f0':∀ o,(w1.alloc o).frozen? ⟨p,0,none⟩=false:=fun o=>(hB.alloc o).frozen 0
      replace hB:=Hd hB;clear hs hb c0 f0;go_wp2;go_returns
      refine ⟨rfl,?_,((Ch.of_below HB.out).alloc _).setCell (p:=⟨p,0,none⟩) (fun _=>H.out.fp.1) _⟩
      have hlt:=HB.out.size
      refine H.out.fresh (rp:=w1.heap.size) (sp:=sp) ((hB.out.alloc _).set 0 _) ((Blk.new _ _ _).far (fun e=>by have:=hB.out.lt;simp at e;omega) _) ?_ hlt (((Ch.of_below HB.out).alloc _).setCell (p:=⟨p,0,none⟩) (fun _=>H.out.fp) _)
      have h2:=(HS.out.ch ((Ch.refl (fun _=>False) w1).alloc (.cells #[Value.pointer (some { block:=sp,off:=0 }),Value.bool false,Value.int IntKind.i64 cpu,Value.int IntKind.i64 who,Value.bool false] 190)) (fun _ _ h=>h)).ch ((Ch.refl (fun b=>b=p) _).put 0 (.pointer (some ⟨w1.heap.size,0,none⟩))) (fun b hb e=>by subst e;have:=H.out.head.lt;rcases hb with hb | hb;exact hb;omega)
      refine h2.mono ?_;rintro b (hb | ⟨hb1,hb2⟩)
      ·exact hb.elim
      ·exact ⟨hb1,by simp;omega,by omega⟩
     ·simp only [if_true,if_false,Bool.false_eq_true] at D ⊢
      go_enter func165,ntmps165
      go_wp2_with fail;refine A.out.mono ?_;rintro e w1 ⟨rfl,rfl⟩;go_wp2_with fail;refine B.out.mono ?_;rintro e w1 ⟨rfl,rfl⟩;go_wp2_with fail;refine D.out.mono ?_;rintro e w1 ⟨⟨sp,rfl,hs⟩,hb⟩;have HS:=Hd hs;have HB:=Hd hb
      have hB:=H.out.head.ch (Ch.off hb) (fun h=>h)
      have c0':∀ o,(w1.alloc o).cell? ⟨p,0,none⟩=some (.pointer none):=fun o=>by have:=keepcell hb c0;rwa [(hB.alloc o).cell,← hB.cell]
      have f0':∀ o,(w1.alloc o).frozen? ⟨p,0,none⟩=false:=fun o=>(hB.alloc o).frozen 0
      replace hB:=Hd hB;clear hs hb c0 f0;go_wp2;go_returns
      refine ⟨rfl,?_,((Ch.of_below HB.out).alloc _).setCell (p:=⟨p,0,none⟩) (fun _=>H.out.fp.1) _⟩
      have hlt:=HB.out.size
      refine H.out.fresh (rp:=w1.heap.size) (sp:=sp) ((hB.out.alloc _).set 0 _) ((Blk.new _ _ _).far (fun e=>by have:=hB.out.lt;simp at e;omega) _) ?_ hlt (((Ch.of_below HB.out).alloc _).setCell (p:=⟨p,0,none⟩) (fun _=>H.out.fp) _)
      have h2:=(HS.out.ch ((Ch.refl (fun _=>False) w1).alloc (.cells #[Value.pointer (some { block:=sp,off:=0 }),Value.bool true,Value.int IntKind.i64 cpu,Value.int IntKind.i64 who,Value.bool false] 190)) (fun _ _ h=>h)).ch ((Ch.refl (fun b=>b=p) _).put 0 (.pointer (some ⟨w1.heap.size,0,none⟩))) (fun b hb e=>by subst e;have:=H.out.head.lt;rcases hb with hb | hb;exact hb;omega)
      refine h2.mono ?_;rintro b (hb | ⟨hb1,hb2⟩)
      ·exact hb.elim
      ·exact ⟨hb1,by simp;omega,by omega⟩
theorem DeskAtQ.turn {p rp sp:Nat} {mv:Value} {c:Nat→Nat} {d:Desk} (h:DeskAtQ w F p (.pointer (.some ⟨rp,0,.none⟩)) mv c d) {r:Req} (hrp:Col F c 1 rp) (hr:Blk w' rp (reqCells sp r) 190) (hs:RunAt w' (Col F c 2) sp r.run) {m:Option (List (Int × Bool))} (hp:PlanAt w' F c mv m) (hc:Ch (fun b=>F b∧c b≠0) w w'):DeskAt w' F p ⟨.some r,m⟩ :=
 ⟨_,mv,c,h.head.ch hc (fun e=>e.2 h.fp.2),h.fp,⟨rp,sp,rfl,hr,hrp,hs⟩,hp,fun b hb=>Nat.lt_of_lt_of_le (h.lt b hb) hc.size⟩
def deskDone (d:Desk):Desk × Int :=
 match d.req with
 | .none=>(d,12)
 | .some r=>if runOver r.run then (d,6) else (⟨.some ⟨(runDone r.run).1,r.up,r.cpu,r.who,false⟩,d.planned⟩,(runDone r.run).2)
theorem ddone_any (w:World) {d:Desk} (h:DeskAt w F p d):Calls prog 193 #[.pointer (some ⟨p,0,none⟩)] w fun e w'=>e=.returned (.int .i64 (deskDone d).2)∧DeskAt w' F p (deskDone d).1∧Ch F w w'∧w'.heap.size=w.heap.size:=by
 have HT:=Hd h;have A:=Hd (dmay_any w h);obtain ⟨rv,mv,c,h⟩:=h;unfold deskDone;unfold deskMay at A
 cases hd:d.req with
 | none =>
  rw [hd] at A;clear h hd
  go_enter func193,ntmps193
  go_wp2_with fail;refine A.out.mono ?_;rintro e w1 ⟨rfl,n,rfl⟩;go_wp2;go_returns
  exact ⟨rfl,HT.out.below (belowN _ _),(Ch.refl _ _).drewN _,rfl⟩
 | some r =>
  obtain ⟨rp,sp,rfl,c0,hb,hrp,hr⟩:=h.some hd
  have hpl:=Hd h.plan;rw [hd] at A;dsimp only at A ⊢;generalize ho:runOver r.run=o at *
  cases o with
  | true =>
   clear h hd ho hb hr
   go_enter func193,ntmps193
   go_wp2_with fail;refine A.out.mono ?_;rintro e w1 ⟨rfl,n,rfl⟩;go_wp2;go_returns
   exact ⟨rfl,HT.out.below (belowN _ _),(Ch.refl _ _).drewN _,rfl⟩
  | false =>
   have k0:w.cell? ⟨rp,0,none⟩=some (.pointer (some ⟨sp,0,none⟩)):=hb.cell 0
   have k4:w.cell? ⟨rp,4,none⟩=some (.bool r.told):=hb.cell 4
   have f4:w.frozen? ⟨rp,4,none⟩=false:=hb.frozen 4
   have hne:p≠rp:=fun e=>by subst e;have:=h.fp.2.symm.trans hrp.2;omega
   have hB:=Hd (hb.set 4 (.bool false))
   have D:=fun n=>Hd (rdone_any ((w.drewN n).setCell ⟨rp,4,none⟩ (.bool false)) (hr.ch (((Ch.refl (fun k=>k=rp) w).drewN n).put 4 (.bool false)) (fun b hb' e=>by subst e;have:=hb'.2.symm.trans hrp.2;omega)))
   have H:=Hd h;have HC:=Hd c0;clear h hd ho hb hr
   go_enter func193,ntmps193
   go_wp2_with fail;refine A.out.mono ?_;rintro e w1 ⟨rfl,n,rfl⟩
   replace D:=D n
   go_wp2_with fail;refine D.out.mono ?_;rintro e w2 ⟨rfl,h1,h2,h3⟩;replace h1:=Hd h1;replace h2:=Hd h2;replace h3:=Hd h3;go_wp2;go_returns
   have hc:Ch (fun b=>F b∧c b≠0) w w2:=(((Ch.refl _ w).drewN n).setCell (p:=⟨rp,4,none⟩) (fun _=>⟨hrp.1,by have:=hrp.2;simp only;omega⟩) (.bool false)).then h2.out (fun b _ hb=>⟨hb.1,by have:=hb.2;omega⟩)
   refine ⟨rfl,?_,hc.mono (fun _ _ h=>h.1),by rw [h3.out];simp⟩
   refine H.out.turn (sp:=sp) hrp ?_ h1.out ?_ hc
   ·have hq:Blk ((w.drewN n).setCell ⟨rp,4,none⟩ (.bool false)) rp (reqCells sp ⟨(runDone r.run).1,r.up,r.cpu,r.who,false⟩) 190:=hB.out
    exact hq.ch h2.out (fun e=>by have:=e.2.symm.trans hrp.2;omega)
   ·exact hpl.out.ch (((Ch.refl (fun b=>F b∧c b≠3) w).drewN n).setCell (p:=⟨rp,4,none⟩) (fun _=>⟨hrp.1,by have:=hrp.2;simp only;omega⟩) (.bool false) |>.then h2.out (fun b _ hb=>⟨hb.1,by have:=hb.2;omega⟩)) (fun b hb e=>e.2 hb.2)
def deskEnd (d:Desk):Desk × Int × Int :=
 match d.req with
 | .none=>(d,0,12)
 | .some r=>if runOver r.run then (⟨.none,d.planned⟩,runWhy r.run,0) else (d,0,6)
theorem dend_any (w : World) {F : Nat → Prop} {p : Nat} {d : Desk} (h : DeskAt w F p d) : Calls prog 195 #[.pointer (some ⟨p, 0, none⟩)] w fun e w' => e = .returned (.tuple #[.int .i64 (deskEnd d).2.1, .int .i64 (deskEnd d).2.2]) ∧ DeskAt w' F p (deskEnd d).1 ∧ Ch F w w' ∧ w'.heap.size = w.heap.size := by
  have HT := Hd h
  have A := Hd (dover_any w h)
  obtain ⟨rv, mv, c, h⟩ := h
  unfold deskEnd
  unfold deskOver at A
  cases hd : d.req with
  | none =>
    have c0 := h.none hd
    clear h hd A
    go_enter func195, ntmps195
    go_wp2
    go_returns
    exact ⟨rfl, HT.out, Ch.refl _ _, rfl⟩
  | some r =>
    obtain ⟨rp, sp, rfl, c0, hb, hrp, hr⟩ := h.some hd
    rw [hd] at A
    dsimp only at A ⊢
    have B := fun n => Hd (rwhy_any (w.drewN n) (hr.below (belowN w n)))
    generalize runOver r.run = o at *
    cases o with
    | false =>
      clear h hd B hb hr
      go_enter func195, ntmps195
      go_wp2_with fail
      refine A.out.mono ?_
      rintro e w1 ⟨rfl, n, rfl⟩
      go_wp2
      go_returns
      exact ⟨rfl, HT.out.below (belowN _ _), (Ch.refl _ _).drewN _, rfl⟩
    | true =>
      have k0 : w.cell? ⟨rp, 0, none⟩ = some (.pointer (some ⟨sp, 0, none⟩)) := hb.cell 0
      have f0 : w.frozen? ⟨p, 0, none⟩ = false := h.head.frozen 0
      have H := Hd h
      clear h hd hb hr
      go_enter func195, ntmps195
      go_wp2_with fail
      refine A.out.mono ?_
      rintro e w1 ⟨rfl, n, rfl⟩
      replace B := B n
      go_wp2_with fail
      refine B.out.mono ?_
      rintro e w2 ⟨rfl, m, rfl⟩
      go_wp2
      go_returns
      refine ⟨rfl, ⟨_, mv, c, (H.out.head.drewN (n + m)).set 0 _, H.out.fp, rfl, ?_, ?_⟩, ((Ch.refl _ w).drewN (n + m)).setCell (p := ⟨p, 0, none⟩) (fun _ => H.out.fp.1) _, by simp⟩
      · exact H.out.plan.ch (((Ch.refl (fun b => b = p) w).drewN (n + m)).put 0 _) (fun b hb e => by have e : b = p := e
                                                                                                     have := hb.2.symm.trans (e ▸ H.out.fp.2); omega)
      · exact fun b hb => by have := H.out.lt b hb; simpa using this
def planF (m:Option (List (Int × Bool))) (n:Int):List (Int × Bool):=mput (m.getD []) n true
def deskPlan (d:Desk) (n:Int):Desk × Int:=if n < 0∨10≤n then (d,3) else (⟨d.req,some (planF d.planned n)⟩,0)
theorem encB_put (m:List (Int × Bool)) (k:Int) (v:Bool):mput (encB m) k (.bool v)=encB (mput m k v):=by
 induction m with
 | nil=>rfl
 | cons x t ih =>
  simp only [encB,List.map_cons,mput] at *
  split
  ·rfl
  ·rw [ih];rfl
theorem encB_get (m:List (Int × Bool)) (k:Int):mget (encB m) k=(mget m k).map Value.bool:=by
 induction m with
 | nil=>rfl
 | cons x t ih =>
  simp only [encB,List.map_cons,mget] at *
  split
  ·rfl
  ·exact ih
theorem encB_del (m:List (Int × Bool)) (k:Int):mdel (encB m) k=encB (mdel m k):=by
 induction m with
 | nil=>rfl
 | cons x t ih =>
  simp only [encB,List.map_cons,mdel] at *
  split
  ·rfl
  ·rw [ih];rfl
theorem dplan_any (w:World) {d:Desk} (h:DeskAt w F p d) (n:Int):Calls prog 244 #[.pointer (some ⟨p,0,none⟩),.int .i64 n] w fun e w'=>e=.returned (.int .i64 (deskPlan d n).2)∧DeskAt w' (Plus w w' F) p (deskPlan d n).1∧Ch F w w':=by
 have HT:=Hd h;obtain ⟨rv,mv,c,h⟩:=h;unfold deskPlan
 rcases (by omega:n < 0∨(0≤n∧10≤n)∨(0≤n∧n < 10)) with h0 | ⟨h0,h1⟩ | ⟨h0,h1⟩
 ·rw [if_pos (.inl h0)]
  clear h
  go_enter func244,ntmps244
  go_wp2;go_returns
  exact ⟨rfl,by rw [Plus.self];exact HT.out,Ch.refl _ _⟩
 ·rw [if_pos (.inr h1)]
  clear h
  go_enter func244,ntmps244
  go_wp2;go_returns
  exact ⟨rfl,by rw [Plus.self];exact HT.out,Ch.refl _ _⟩
 ·rw [if_neg (by omega)]
  have hp:=h.plan
  have c1:w.cell? ⟨p,1,none⟩=some mv:=h.head.cell 1
  have f1:w.frozen? ⟨p,1,none⟩=false:=h.head.frozen 1
  have qT:∀ (w:World) (r:Option Nat),(binOp .eql 144 (.map r) (.map none)).run prog w=.ok (.bool r.isNone) w:=fun w r=>run_eql_map_nil w _ _ _ r underlying144
  have hmm:=@run_makeMap prog
  have H:=Hd h;clear h
  cases hd:d.planned with
  | none =>
   rw [hd] at hp
   have hp':mv=.map none:=hp
   subst hp'
   have hput:=run_put (P:=prog) (w:=(w.alloc (.map #[] 0)).setCell ⟨p,1,none⟩ (.map (some w.heap.size))) ((MapAt.new w).ch ((Ch.refl (fun b=>b=p) _).put 1 (.map (some w.heap.size))) (fun e=>by have:=H.out.head.lt;omega)) underlying144 underlying3 n (.bool true)
   have c1':∀ o,(w.alloc o).cell? ⟨p,1,none⟩=some (.map none):=fun o=>by rw [(H.out.head.alloc o).cell];rfl
   have f1':∀ o,(w.alloc o).frozen? ⟨p,1,none⟩=false:=fun o=>(H.out.head.alloc o).frozen 1
   clear hp
   go_enter func244,ntmps244
   go_wp2;go_returns;have hlt:=H.out.head.lt
   have HC:Ch (fun b=>b=p) w (mapPut ((w.alloc (.map #[] 0)).setCell ⟨p,1,none⟩ (.map (some w.heap.size))) w.heap.size n (.bool true)):=(((Ch.refl _ w).alloc _).put 1 _).mapPut (fun e=>by omega) n _
   refine ⟨rfl,⟨rv,_,recol w c 3,?_,?_,?_,⟨w.heap.size,rfl,?_,.inr ⟨Nat.le_refl _,by simp⟩,recol_new (Nat.le_refl _)⟩,?_⟩,HC.mono (fun b _ e=>by have e:b=p:=e;exact e ▸ H.out.fp.1)⟩
   ·exact Blk.ch (((H.out.head.alloc _).set 1 _)) (mapPut_ch _ _ _ _) (fun e=>by have e:p=w.heap.size:=e;omega)
   ·exact ⟨.inl H.out.fp.1,(recol_old hlt).trans H.out.fp.2⟩
   ·exact (H.out.req.ch HC (fun b hb e=>by have e:b=p:=e;have:=hb.2.symm.trans (e ▸ H.out.fp.2);omega) (fun b hb e=>by have e:b=p:=e;have:=hb.2.symm.trans (e ▸ H.out.fp.2);omega)).mono (fun i=>Col.old H.out.lt)
   ·have h2:=((MapAt.new w).ch ((Ch.refl (fun b=>b=p) _).put 1 (.map (some w.heap.size))) (fun e=>by have e:w.heap.size=p:=e;omega)).put n (.bool true)
    exact h2
   ·exact Plus.lt H.out.lt HC.size
  | some m =>
   rw [hd] at hp;obtain ⟨mb,rfl,hm,hmb⟩:=hp
   have hput:=run_put (P:=prog) hm underlying144 underlying3 n (.bool true)
   have hM:=Hd (hm.put n (.bool true))
   clear hm
   go_enter func244,ntmps244
   go_wp2;go_returns
   have HC:Ch (Col F c 3) w (mapPut w mb n (.bool true)):=(Ch.refl _ w).mapPut (fun _=>hmb) n _
   rw [Plus.eq (by simp)]
   refine ⟨rfl,⟨rv,_,c,H.out.head.ch HC (Col.apart (by omega) _ H.out.fp),H.out.fp,H.out.req.ch HC (Col.apart (by omega)) (Col.apart (by omega)),⟨mb,rfl,?_,hmb⟩,fun b hb=>by have:=H.out.lt b hb;simpa using this⟩,Col.ch HC⟩
   have h2:=hM.out;rw [encB_put] at h2
   exact h2
end Go.Proofs.YtiocbpabbjgkhaaGreatDoor
