/- Part 17 of the proof: contracts and plain laws, each under the conditions that it names. -/
import Derived.Test.YtiocbpabbjgkhaaGreatDoorPow16
import Derived.Deep.RegionWith
import Derived.Deep.RegionHeld3
set_option maxRecDepth 100000
set_option maxHeartbeats 20000000
set_option linter.unusedVariables false
set_option linter.unusedSimpArgs false
namespace Go.Proofs.YtiocbpabbjgkhaaGreatDoor
open Go.RowKit Go.Proofs.Tryz
variable {w w' : World} {F : Nat → Prop} {p : Nat} {f : KF} {k : K}
section
open Go.Proofs.YtiocbpabbjgkhaaGreatDoor.NumD
def kSpawn (k:K) (prio:Int) (m:Nat):K :=
 if (thSpawn k.th prio m).2.2=0 then kPut { k with th:=(thSpawn k.th prio m).1 } (thSpawn k.th prio m).2.1 ((thSpawn k.th prio m).2.1.tmod k.cpus) else { k with th:=(thSpawn k.th prio m).1 }
theorem KAt.kspawn (h:KAt w F p f k) (prio:Int) (m:Nat) (hm:m < top64):Calls prog 83 #[.pointer (some ⟨p,0,none⟩),.int .i64 prio,.int .u64 m] w fun e w'=>e=.returned (.tuple #[.int .i64 (thSpawn k.th prio m).2.1,.int .i64 (thSpawn k.th prio m).2.2])∧KS w w' F p f (kSpawn k prio m):=by
 have hc1:=h.n1;have hc64:=h.n64;have H0:=Hd h;have HK:=Hd h;have HL:=Hd (Lk.refl w F);clear h;unfold kSpawn
 have P:=HK.out.ktspawn prio m hm
 obtain ⟨u,hu⟩:∃ u,u=thSpawn k.th prio m:=⟨_,rfl⟩
 rw [← hu] at P ⊢;obtain ⟨t1,id,why⟩:=u;dsimp only at P ⊢;replace hu:=Hd hu;replace P:=Hd P
 obtain ⟨cpus,hcp⟩:∃ c:Int,c=k.cpus:=⟨_,rfl⟩
 have hc0:cpus≠0:=by omega
 rw [← hcp];replace hcp:=Hd hcp;replace hc1:=Hd hc1;replace hc64:=Hd hc64;have c0:=HK.out.h0
 by_cases h0:why=0
 ·subst h0
  rw [if_pos rfl]
  go_enter func83,ntmps83
  go_wp2_with fail;refine P.out.mono ?_;rintro e w1 ⟨rfl,S⟩;clear P c0;replace S:=S.nx HL.out;clear HL HK;obtain ⟨F1,HK,HL⟩:=S
  try dsimp only at HK
  have c15:=HK.out.hcp;rw [show (({ k with th:=t1 }:K).cpus:Int)=cpus from hcp.out.symm] at c15
  have P:=Hd (HK.out.kput id (id.tmod cpus))
  go_wp2_with fail;refine P.out.mono ?_;rintro e w1 ⟨rfl,S⟩;clear P;replace S:=S.nx HL.out;clear HL HK;obtain ⟨F1,HK,HL⟩:=S
  try dsimp only at HK
  go_wp2;go_returns
  exact ⟨rfl,HK.out.close HL.out H0.out⟩
 ·rw [if_neg h0]
  have h0':(why == 0)=false:=by simpa using h0
  go_enter func83,ntmps83
  go_wp2_with fail;refine P.out.mono ?_;rintro e w1 ⟨rfl,S⟩;clear P c0;replace S:=S.nx HL.out;clear HL HK;obtain ⟨F1,HK,HL⟩:=S
  try dsimp only at HK
  go_wp2;go_returns
  exact ⟨rfl,HK.out.close HL.out H0.out⟩
theorem KAt.irq_mask (h:KAt w F p f k) (n:Int):(irqGet k.iq n).mask < top64:=by
 obtain ⟨c,H⟩:=h;unfold irqGet
 split
 ·decide
 ·rename_i hm
  obtain ⟨i,rfl,hi⟩:=may_yes (Classical.not_not.1 hm)
  unfold irqAt;have hl:=H.iq.len
  have hi2:i < k.iq.all.length:=by omega
  exact H.iq.lm _ (List.mem_of_getElem? (by rw [Int.toNat_natCast];exact getD_some hi2))
theorem KAt.get_irq (h:KAt w F p f k) (n:Int):Calls prog 228 #[.pointer (some ⟨f.pt 3,0,none⟩),.int .i64 n] w fun e w'=>e=.returned (.tuple #[.agg #[.bool (irqGet k.iq n).wanted,.bool (irqGet k.iq n).masked,.bool (irqGet k.iq n).pending,.int .u64 (irqGet k.iq n).mask],.int .i64 (mayF 16 n)])∧Below w.heap.size w w':=h.kiget n
def kLead (k:K) (n near:Int):K:={ k with rt:=(routeSet k.rt n (chooseF (irqGet k.iq n).mask k.active near).1).1 }
theorem KAt.klead (h:KAt w F p f k) (n near:Int):Calls prog 141 #[.pointer (some ⟨p,0,none⟩),.int .i64 n,.int .i64 near] w fun e w'=>e=.returned (.tuple #[])∧KS w w' F p f (kLead k n near):=by
 have hm:=Hd (h.irq_mask n)
 have G:=h.get_irq n
 unfold kLead
 obtain ⟨x,hx⟩:∃ x,x=irqGet k.iq n:=⟨_,rfl⟩
 rw [← hx] at hm G ⊢;replace hx:=Hd hx;replace G:=Hd G;have c3:=h.h3;have H0:=Hd h;have HK:=Hd h;have HL:=Hd (Lk.refl w F);clear h
 go_enter func141,ntmps141
 go_wp2_with fail;refine G.out.mono ?_;rintro e w1 ⟨rfl,S⟩;clear c3 G;replace HL:=Hd (HL.out.below S);replace HK:=Hd (HK.out.below S);clear S
 have HX:=HK.out.bx HL.out #[.bool x.wanted,.bool x.masked,.bool x.pending,.int .u64 x.mask] 187
 clear HL HK;obtain ⟨HB,HK,HL⟩:=HX;have c17:=HK.out.hac;have b3:=HB.out.cell 3
 have B2:=fun n=>Hd (choose_any x.mask k.active hm.out HK.out.ac near _ (HK.out.drewN n).tab)
 go_wp2
 go_quiet ((go_at_call 215;exact quiet_left (B2 _).out))
 replace HB:=Hd (HB.out.drewN nq);replace HL:=Hd (HL.out.drewN nq);replace HK:=Hd (HK.out.drewN nq);clear c17 b3 B2
 have P:=Hd (HK.out.koset n (chooseF x.mask k.active near).1)
 have c4:=HK.out.h4;go_wp2_with fail;refine P.out.mono ?_;rintro e w1 ⟨rfl,S⟩;clear P c4;obtain ⟨F1,L1,K1⟩:=S.open;clear S
 try dsimp only at K1
 replace HB:=Hd (HB.out.lk L1);replace HL:=Hd (HL.out.trans L1);replace HK:=Hd K1;clear L1 K1;go_wp2;go_end0
 exact ⟨rfl,HK.out.close HL.out H0.out⟩
def kSleep (k:K) (id:Int) (x:Thread) (n:Int):K :=
 if (laterF k.now n).2≠0 then k else
  let cpu:=if hasF k.active x.cpu then x.cpu else (firstF k.active).1
  let a:=timersArm k.tm cpu (laterF k.now n).1
  if a.2.2≠0 then { k with tm:=a.1 } else
   { k with tm:=a.1,own:=mput k.own a.2.1 id,qs:=(runqTake k.qs id).1,th:=(thSleep k.th id a.2.1).1 }
def kSleepR (k:K) (id:Int) (x:Thread) (n:Int):Int × Int :=
 if (laterF k.now n).2≠0 then (0,(laterF k.now n).2) else
  let cpu:=if hasF k.active x.cpu then x.cpu else (firstF k.active).1
  let a:=timersArm k.tm cpu (laterF k.now n).1
  if a.2.2≠0 then (0,a.2.2) else (a.2.1,(thSleep k.th id a.2.1).2)
theorem KAt.ksleep (h:KAt w F p f k) (hf:fewT k.tm) (id:Int) (x:Thread) (n:Int) (hn:In64 n):Calls prog 134 #[.pointer (some ⟨p,0,none⟩),.int .i64 id,.agg #[.int .i64 x.prio,.int .u64 x.mask,.int .i64 x.cpu,.bool x.forced,.bool x.sleeps,.int .i64 x.timer],.int .i64 n] w fun e w'=>e=.returned (.tuple #[.int .i64 (kSleepR k id x n).1,.int .i64 (kSleepR k id x n).2])∧KS w w' F p f (kSleep k id x n):=by
 have H0:=Hd h;have HK:=Hd h;have HL:=Hd (Lk.refl w F);clear h
 have HX:=HK.out.bx HL.out #[.int .i64 x.prio,.int .u64 x.mask,.int .i64 x.cpu,.bool x.forced,.bool x.sleeps,.int .i64 x.timer] 79
 clear HL HK;obtain ⟨HB,HK,HL⟩:=HX;have b2:=HB.out.cell 2
 have A:=later_any k.now n (w.alloc (.cells #[.int .i64 x.prio,.int .u64 x.mask,.int .i64 x.cpu,.bool x.forced,.bool x.sleeps,.int .i64 x.timer] 79)) HK.out.in_now hn
 have hac:=HK.out.ac;have C:=Hd (fun cpu w=>has_any k.active hac cpu w)
 have D:=Hd (first_any k.active hac (w.alloc (.cells #[.int .i64 x.prio,.int .u64 x.mask,.int .i64 x.cpu,.bool x.forced,.bool x.sleeps,.int .i64 x.timer] 79)) HK.out.tab)
 replace hf:=Hd hf;replace hac:=Hd hac;unfold kSleep kSleepR
 obtain ⟨l,hl⟩:∃ l,l=laterF k.now n:=⟨_,rfl⟩
 rw [← hl] at A ⊢;replace A:=Hd A;obtain ⟨l1,l2⟩:=l;dsimp only at A ⊢;replace hl:=Hd hl;have c18:=HK.out.hnw;have c17:=HK.out.hac
 by_cases e2:l2=0
 ·subst e2
  rw [if_neg (show ¬ ((0:Int)≠0) by decide),if_neg (show ¬ ((0:Int)≠0) by decide)]
  obtain ⟨fi,hfi⟩:∃ fi,fi=firstF k.active:=⟨_,rfl⟩
  rw [← hfi] at D ⊢;replace hfi:=Hd hfi;obtain ⟨f1,f2⟩:=fi;dsimp only at D ⊢
  obtain ⟨q,hq⟩:∃ q,q=hasF k.active x.cpu:=⟨_,rfl⟩
  rw [← hq];replace C:=Hd (C.out x.cpu);rw [← hq] at C;replace hq:=Hd hq
  obtain ⟨cpu,hcpu⟩:∃ cpu,cpu=if q=true then x.cpu else f1:=⟨_,rfl⟩
  rw [← hcpu]
  obtain ⟨a,ha⟩:∃ a,a=timersArm k.tm cpu l1:=⟨_,rfl⟩
  rw [← ha];replace ha:=Hd ha;obtain ⟨a1,a2,a3⟩:=a;dsimp only
  obtain ⟨ts,hts⟩:∃ ts,ts=thSleep k.th id a2:=⟨_,rfl⟩
  rw [← hts];replace hts:=Hd hts
  have P:=HK.out.ktarm hf.out cpu l1
  rw [← ha.out] at P;dsimp only at P;replace P:=Hd P;have c2:=HK.out.h2
  have fin:∀ (cp:Int),True:=fun _=>trivial
  cases q with
  | true =>
   rw [if_pos rfl] at hcpu;subst hcpu
   by_cases e3:a3=0
   ·subst e3
    rw [if_neg (show ¬ ((0:Int)≠0) by decide),if_neg (show ¬ ((0:Int)≠0) by decide)]
    go_enter func134,ntmps134
    go_wp2_with fail;refine A.out.mono ?_;rintro e w1 ⟨rfl,rfl⟩;clear c18;go_wp2_with fail;refine (C.out _).mono ?_;rintro e w1 ⟨rfl,rfl⟩;clear C D;go_wp2_with fail;refine P.out.mono ?_;rintro e w1 ⟨rfl,S⟩;clear P c2 b2 c17;obtain ⟨F1,L1,K1⟩:=S.open;clear S
    try dsimp only at K1
    replace HB:=Hd (HB.out.lk L1);replace HL:=Hd (HL.out.trans L1);replace HK:=Hd K1;clear L1 K1
    have R:=HK.out.run_put a2 id
    have c20:=HK.out.hom
    have S:=HK.out.put a2 id
    obtain ⟨F1,L1,K1⟩:=S.open;clear S
    try dsimp only at K1
    replace HB:=Hd (HB.out.lk L1);replace HL:=Hd (HL.out.trans L1);replace HK:=Hd K1;clear L1 K1;have P:=Hd (HK.out.krtake id);have c1:=HK.out.h1;go_wp2_with fail;refine P.out.mono ?_;rintro e w1 ⟨rfl,S⟩;clear P c1;obtain ⟨F1,L1,K1⟩:=S.open;clear S
    try dsimp only at K1
    replace HB:=Hd (HB.out.lk L1);replace HL:=Hd (HL.out.trans L1);replace HK:=Hd K1;clear L1 K1;clear R c20
    have P:=HK.out.ktsleep id a2
    dsimp only at P;rw [← hts.out] at P;replace P:=Hd P;have c0:=HK.out.h0;go_wp2_with fail;refine P.out.mono ?_;rintro e w1 ⟨rfl,S⟩;clear P c0;obtain ⟨F1,L1,K1⟩:=S.open;clear S
    try dsimp only at K1
    replace HB:=Hd (HB.out.lk L1);replace HL:=Hd (HL.out.trans L1);replace HK:=Hd K1;clear L1 K1;go_wp2;go_returns
    exact ⟨rfl,HK.out.close HL.out H0.out⟩
   ·rw [if_pos e3,if_pos e3]
    have e4:(a3 == 0)=false:=by simpa using e3
    go_enter func134,ntmps134
    go_wp2_with fail;refine A.out.mono ?_;rintro e w1 ⟨rfl,rfl⟩;clear c18;go_wp2_with fail;refine (C.out _).mono ?_;rintro e w1 ⟨rfl,rfl⟩;clear C D;go_wp2_with fail;refine P.out.mono ?_;rintro e w1 ⟨rfl,S⟩;clear P c2 b2 c17;obtain ⟨F1,L1,K1⟩:=S.open;clear S
    try dsimp only at K1
    replace HB:=Hd (HB.out.lk L1);replace HL:=Hd (HL.out.trans L1);replace HK:=Hd K1;clear L1 K1;go_wp2;go_returns
    exact ⟨rfl,HK.out.close HL.out H0.out⟩
  | false =>
   rw [if_neg (by decide)] at hcpu;subst hcpu
   by_cases e3:a3=0
   ·subst e3
    rw [if_neg (show ¬ ((0:Int)≠0) by decide),if_neg (show ¬ ((0:Int)≠0) by decide)]
    go_enter func134,ntmps134
    go_wp2_with fail;refine A.out.mono ?_;rintro e w1 ⟨rfl,rfl⟩;clear c18;go_wp2_with fail;refine (C.out _).mono ?_;rintro e w1 ⟨rfl,rfl⟩;go_wp2_with fail;refine D.out.mono ?_;rintro e w1 ⟨rfl,rfl⟩;clear C D;go_wp2_with fail;refine P.out.mono ?_;rintro e w1 ⟨rfl,S⟩;clear P c2 b2 c17;obtain ⟨F1,L1,K1⟩:=S.open;clear S
    try dsimp only at K1
    replace HB:=Hd (HB.out.lk L1);replace HL:=Hd (HL.out.trans L1);replace HK:=Hd K1;clear L1 K1
    have R:=HK.out.run_put a2 id
    have c20:=HK.out.hom
    have S:=HK.out.put a2 id
    obtain ⟨F1,L1,K1⟩:=S.open;clear S
    try dsimp only at K1
    replace HB:=Hd (HB.out.lk L1);replace HL:=Hd (HL.out.trans L1);replace HK:=Hd K1;clear L1 K1;have P:=Hd (HK.out.krtake id);have c1:=HK.out.h1;go_wp2_with fail;refine P.out.mono ?_;rintro e w1 ⟨rfl,S⟩;clear P c1;obtain ⟨F1,L1,K1⟩:=S.open;clear S
    try dsimp only at K1
    replace HB:=Hd (HB.out.lk L1);replace HL:=Hd (HL.out.trans L1);replace HK:=Hd K1;clear L1 K1;clear R c20
    have P:=HK.out.ktsleep id a2
    dsimp only at P;rw [← hts.out] at P;replace P:=Hd P;have c0:=HK.out.h0;go_wp2_with fail;refine P.out.mono ?_;rintro e w1 ⟨rfl,S⟩;clear P c0;obtain ⟨F1,L1,K1⟩:=S.open;clear S
    try dsimp only at K1
    replace HB:=Hd (HB.out.lk L1);replace HL:=Hd (HL.out.trans L1);replace HK:=Hd K1;clear L1 K1;go_wp2;go_returns
    exact ⟨rfl,HK.out.close HL.out H0.out⟩
   ·rw [if_pos e3,if_pos e3]
    have e4:(a3 == 0)=false:=by simpa using e3
    go_enter func134,ntmps134
    go_wp2_with fail;refine A.out.mono ?_;rintro e w1 ⟨rfl,rfl⟩;clear c18;go_wp2_with fail;refine (C.out _).mono ?_;rintro e w1 ⟨rfl,rfl⟩;go_wp2_with fail;refine D.out.mono ?_;rintro e w1 ⟨rfl,rfl⟩;clear C D;go_wp2_with fail;refine P.out.mono ?_;rintro e w1 ⟨rfl,S⟩;clear P c2 b2 c17;obtain ⟨F1,L1,K1⟩:=S.open;clear S
    try dsimp only at K1
    replace HB:=Hd (HB.out.lk L1);replace HL:=Hd (HL.out.trans L1);replace HK:=Hd K1;clear L1 K1;go_wp2;go_returns
    exact ⟨rfl,HK.out.close HL.out H0.out⟩
 ·rw [if_pos e2,if_pos e2]
  have e3:(l2 == 0)=false:=by simpa using e2
  clear C D c17 b2
  go_enter func134,ntmps134
  go_wp2_with fail;refine A.out.mono ?_;rintro e w1 ⟨rfl,rfl⟩;go_wp2;go_returns
  exact ⟨rfl,HK.out.close HL.out H0.out⟩
def kAim (k:K) (n:Int):K:=if wrongF k.active (irqGet k.iq n).mask (routeOf k.rt n).1 (!hasF (irqGet k.iq n).mask (routeOf k.rt n).1) then kLead k n (routeOf k.rt n).1 else k
theorem KAt.kaim (h:KAt w F p f k) (n:Int):Calls prog 147 #[.pointer (some ⟨p,0,none⟩),.int .i64 n] w fun e w'=>e=.returned (.tuple #[])∧KS w w' F p f (kAim k n):=by
 have hm:=Hd (h.irq_mask n)
 have G:=h.get_irq n
 unfold kAim
 obtain ⟨x,hx⟩:∃ x,x=irqGet k.iq n:=⟨_,rfl⟩
 rw [← hx] at hm G ⊢;replace hx:=Hd hx;replace G:=Hd G
 obtain ⟨o,ho⟩:∃ o,o=routeOf k.rt n:=⟨_,rfl⟩
 rw [← ho];replace ho:=Hd ho;obtain ⟨o1,o2⟩:=o;dsimp only
 obtain ⟨q,hq⟩:∃ q,q=hasF x.mask o1:=⟨_,rfl⟩
 rw [← hq];replace hq:=Hd hq
 obtain ⟨g,hg⟩:∃ g,g=wrongF k.active x.mask o1 (!q):=⟨_,rfl⟩
 rw [← hg];replace hg:=Hd hg;have c3:=h.h3;have H0:=Hd h;have HK:=Hd h;have HL:=Hd (Lk.refl w F);clear h
 cases g with
 | false =>
  rw [if_neg (by decide)]
  go_enter func147,ntmps147
  go_wp2_with fail;refine G.out.mono ?_;rintro e w1 ⟨rfl,S⟩;clear c3 G;replace HL:=Hd (HL.out.below S);replace HK:=Hd (HK.out.below S);clear S
  have HX:=HK.out.bx HL.out #[.bool x.wanted,.bool x.masked,.bool x.pending,.int .u64 x.mask] 187
  clear HL HK;obtain ⟨HB,HK,HL⟩:=HX;have P:=Hd (HK.out.koof n);have c4:=HK.out.h4;rw [← ho.out] at P;go_wp2_with fail;refine P.out.mono ?_;rintro e w1 ⟨rfl,rfl⟩;clear P c4;have c17:=HK.out.hac;have b3:=HB.out.cell 3
  have B2:=fun n=>Hd (has_any x.mask hm.out o1 n)
  rw [← hq.out] at B2
  have B:=fun W=>Hd (wrong_any k.active x.mask HK.out.ac hm.out 0 o1 (!q) W)
  rw [← hg.out] at B;go_wp2
  refine region_tailC (C:=fun w'=>∃ k,w'=((w1.alloc (.cells #[.bool x.wanted,.bool x.masked,.bool x.pending,.int .u64 x.mask] 187))).drewN k) 13 ?_ ?_ ?_ ?_;(kernel_rfl);(kernel_rfl);(first | exact cls0 _ | exact clsN _ _);simp only [List.take_succ_cons,List.take_zero,List.drop_succ_cons,List.drop_zero];(repeat (go_big_quiet_step ((go_at_call 18;exact quiet_left (B2 _).out))));refine wpQuiet_nil ?_;rintro _ ⟨nq,rfl⟩
  go_wp2_with fail;refine (B _).out.mono ?_;rintro e w1 ⟨rfl,S⟩;replace HB:=Hd (HB.out.drewN nq);replace HL:=Hd (HL.out.drewN nq);replace HK:=Hd (HK.out.drewN nq)
  replace HB:=Hd (HB.out.lk (Lk.of_below S))
  replace HL:=Hd (HL.out.below S);replace HK:=Hd (HK.out.below S);clear S;clear c17 b3 B2 B;go_wp2;go_end0
  exact ⟨rfl,HK.out.close HL.out H0.out⟩
 | true =>
  rw [if_pos rfl]
  go_enter func147,ntmps147
  go_wp2_with fail;refine G.out.mono ?_;rintro e w1 ⟨rfl,S⟩;clear c3 G;replace HL:=Hd (HL.out.below S);replace HK:=Hd (HK.out.below S);clear S
  have HX:=HK.out.bx HL.out #[.bool x.wanted,.bool x.masked,.bool x.pending,.int .u64 x.mask] 187
  clear HL HK;obtain ⟨HB,HK,HL⟩:=HX;have P:=Hd (HK.out.koof n);have c4:=HK.out.h4;rw [← ho.out] at P;go_wp2_with fail;refine P.out.mono ?_;rintro e w1 ⟨rfl,rfl⟩;clear P c4;have c17:=HK.out.hac;have b3:=HB.out.cell 3
  have B2:=fun n=>Hd (has_any x.mask hm.out o1 n)
  rw [← hq.out] at B2
  have B:=fun W=>Hd (wrong_any k.active x.mask HK.out.ac hm.out 0 o1 (!q) W)
  rw [← hg.out] at B;go_wp2
  refine region_tailC (C:=fun w'=>∃ k,w'=((w1.alloc (.cells #[.bool x.wanted,.bool x.masked,.bool x.pending,.int .u64 x.mask] 187))).drewN k) 13 ?_ ?_ ?_ ?_;(kernel_rfl);(kernel_rfl);(first | exact cls0 _ | exact clsN _ _);simp only [List.take_succ_cons,List.take_zero,List.drop_succ_cons,List.drop_zero];(repeat (go_big_quiet_step ((go_at_call 18;exact quiet_left (B2 _).out))));refine wpQuiet_nil ?_;rintro _ ⟨nq,rfl⟩
  go_wp2_with fail;refine (B _).out.mono ?_;rintro e w1 ⟨rfl,S⟩;replace HB:=Hd (HB.out.drewN nq);replace HL:=Hd (HL.out.drewN nq);replace HK:=Hd (HK.out.drewN nq)
  replace HB:=Hd (HB.out.lk (Lk.of_below S))
  replace HL:=Hd (HL.out.below S);replace HK:=Hd (HK.out.below S);clear S;clear c17 b3 B2 B;have P:=Hd (HK.out.klead n o1);go_wp2_with fail;refine P.out.mono ?_;rintro e w1 ⟨rfl,S⟩;clear P;replace S:=S.nx HL.out;clear HL HK;obtain ⟨F1,HK,HL⟩:=S
  try dsimp only at HK
  go_wp2;go_end0
  exact ⟨rfl,HK.out.close HL.out H0.out⟩
end
section
open Go.Proofs.YtiocbpabbjgkhaaGreatDoor.NumD
structure Rec where
 kind:Int
 cpu:Int
 id:Int
 n:Int
 why:Int
def recC (r:Rec):Array Value:=#[.int .i64 r.kind,.int .i64 r.cpu,.int .i64 r.id,.int .i64 r.n,.int .i64 r.why]
def RecsAt (w:World) (v:Value) (l:List Rec):Prop:=(l=[]∧v=.slice none 0 0)∨(∃ b r,l=[r]∧v=.slice (some ⟨b,0,none⟩) 1 1∧Blk w b (recC r) 43)
theorem in64_one:In64 1:=by unfold In64;omega
theorem RecsAt.nil (w:World):RecsAt w (.slice none 0 0) []:=.inl ⟨rfl,rfl⟩
theorem RecsAt.one (w:World) (r:Rec):RecsAt (w.alloc (.cells (recC r) 43)) (.slice (some ⟨w.heap.size,0,none⟩) 1 1) [r]:=.inr ⟨_,_,rfl,rfl,Blk.new _ _ _⟩
def RecsN (w w':World) (v:Value) (l:List Rec):Prop:=(l=[]∧v=.slice none 0 0)∨(∃ b r,l=[r]∧v=.slice (some ⟨b,0,none⟩) 1 1∧Blk w' b (recC r) 43∧w.heap.size≤b)
theorem RecsN.one (w:World) (r:Rec):RecsN w (w.alloc (.cells (recC r) 43)) (.slice (some ⟨w.heap.size,0,none⟩) 1 1) [r]:=.inr ⟨_,_,rfl,rfl,Blk.new _ _ _,Nat.le_refl _⟩
def RecsK (w w':World) (F:Nat→Prop) (p:Nat) (f:KF) (k:K) (v:Value) (l:List Rec):Prop :=
 ∃ F1,Lk w F w' F1∧KAt w' F1 p f k∧((l=[]∧v=.slice none 0 0)∨(∃ b r,l=[r]∧v=.slice (some ⟨b,0,none⟩) 1 1∧Blk w' b (recC r) 43∧¬ F1 b∧w.heap.size≤b))
theorem RecsK.lift {w w1 w':World} {F F1:Nat→Prop} {v:Value} {l:List Rec} (h:RecsK w1 w' F1 p f k v l) (L:Lk w F w1 F1):RecsK w w' F p f k v l:=by
 obtain ⟨F2,a,b,c⟩:=h
 refine ⟨F2,L.trans a,b,c.imp id ?_⟩
 rintro ⟨g,r,h1,h2,h3,h4,h5⟩
 exact ⟨g,r,h1,h2,h3,h4,Nat.le_trans L.size h5⟩
theorem RecsK.none {F F1:Nat→Prop} (L:Lk w F w' F1) (h:KAt w' F1 p f k):RecsK w w' F p f k (.slice none 0 0) []:=⟨F1,L,h,.inl ⟨rfl,rfl⟩⟩
theorem RecsK.of {w w1 w':World} {F F1:Nat→Prop} {v:Value} {l:List Rec} (L:Lk w F w1 F1) (h:KAt w1 F1 p f k) (hb:Below w1.heap.size w1 w') (hr:RecsN w1 w' v l):RecsK w w' F p f k v l:=by
 refine ⟨F1,L.below hb,h.below hb,hr.imp id ?_⟩
 rintro ⟨g,r,h1,h2,h3,h4⟩
 exact ⟨g,r,h1,h2,h3,fun e=>by have:=h.ltF g e;omega,Nat.le_trans L.size h4⟩
theorem RecsK.one {w w1:World} {F F1:Nat→Prop} (L:Lk w F w1 F1) (h:KAt w1 F1 p f k) (r:Rec):RecsK w (w1.alloc (.cells (recC r) 43)) F p f k (.slice (some ⟨w1.heap.size,0,Option.none⟩) 1 1) [r] :=
 RecsK.of L h ((Below.refl _ _).alloc (Nat.le_refl _) _) (RecsN.one w1 r)
theorem RecsK.at {v:Value} {l:List Rec} (h:RecsK w w' F p f k v l):RecsAt w' v l:=by
 obtain ⟨F1,_,_,c⟩:=h
 refine c.imp id ?_
 rintro ⟨g,r,h1,h2,h3,h4,h5⟩
 exact ⟨g,r,h1,h2,h3⟩
def ansF (id why:Int):List Rec:=[⟨1,0,if why=0 then id else 0,0,why⟩]
theorem answer_any (w:World) (id why:Int):Calls prog 82 #[.int .i64 id,.int .i64 why] w fun e w'=>(∃ v,e=.returned v∧RecsN w w' v (ansF id why))∧Below w.heap.size w w':=by
 unfold ansF
 by_cases h:why=0
 ·subst h
  rw [if_pos rfl]
  go_enter func82,ntmps82
  go_wp2;go_returns
  exact ⟨⟨_,rfl,RecsN.one _ _⟩,(Below.refl _ _).alloc (Nat.le_refl _) _⟩
 ·rw [if_neg h]
  have h':(why == 0)=false:=by simpa using h
  go_enter func82,ntmps82
  go_wp2;go_returns
  exact ⟨⟨_,rfl,RecsN.one _ _⟩,(Below.refl _ _).alloc (Nat.le_refl _) _⟩
theorem plain_any (w:World) (why:Int):Calls prog 79 #[.int .i64 why] w fun e w'=>(∃ v,e=.returned v∧RecsN w w' v (ansF 0 why))∧Below w.heap.size w w':=by
 have A:=Hd (answer_any w 0 why)
 go_enter func79,ntmps79
 go_wp2_with fail;refine A.out.mono ?_;rintro e w1 ⟨⟨v,rfl,h1⟩,h2⟩;replace h1:=Hd h1;go_wp2;go_returns
 exact ⟨⟨_,rfl,h1.out⟩,h2⟩
def KR (w:World) (F:Nat→Prop) (p:Nat) (f:KF) (k:K) (l:List Rec) (e:Ending) (w':World):Prop:=(∃ v,e=.returned v∧RecsK w w' F p f k v l)∧KS w w' F p f k
theorem kplain {w w1:World} {F F1:Nat→Prop} {k0 k:K} (h0:KAt w F p f k0) (L:Lk w F w1 F1) (h:KAt w1 F1 p f k) (why:Int):Calls prog 79 #[.int .i64 why] w1 fun e w'=>KR w F p f k (ansF 0 why) e w' :=
 (plain_any w1 why).mono (by rintro e w' ⟨⟨v,h1,h3⟩,h2⟩;exact ⟨⟨v,h1,RecsK.of L h h2 h3⟩,(h.below h2).close (L.below h2) h0⟩)
theorem kanswer {w w1:World} {F F1:Nat→Prop} {k0 k:K} (h0:KAt w F p f k0) (L:Lk w F w1 F1) (h:KAt w1 F1 p f k) (id why:Int):Calls prog 82 #[.int .i64 id,.int .i64 why] w1 fun e w'=>KR w F p f k (ansF id why) e w' :=
 (answer_any w1 id why).mono (by rintro e w' ⟨⟨v,h1,h3⟩,h2⟩;exact ⟨⟨v,h1,RecsK.of L h h2 h3⟩,(h.below h2).close (L.below h2) h0⟩)
def kDone (k:K) (cpu:Int):K:={ k with ct:=(splitAdd k.ct cpu 1).1 }
theorem KAt.kdone (h:KAt w F p f k) (cpu kind id n:Int):Calls prog 202 #[.pointer (some ⟨p,0,none⟩),.int .i64 cpu,.int .i64 kind,.int .i64 id,.int .i64 n] w fun e w'=>KR w F p f (kDone k cpu) [⟨kind,cpu,id,n,0⟩] e w':=by
 have H0:=Hd h;have HK:=Hd h;have HL:=Hd (Lk.refl w F);clear h
 go_enter func202,ntmps202
 have P:=Hd (HK.out.ksadd cpu 1 in64_one);have c8:=HK.out.h8;go_wp2_with fail;refine P.out.mono ?_;rintro e w1 ⟨rfl,S⟩;clear P c8;replace S:=S.nx HL.out;clear HL HK;obtain ⟨F1,HK,HL⟩:=S
 try dsimp only at HK
 go_wp2;go_returns
 exact ⟨⟨_,rfl,RecsK.one HL.out HK.out ⟨kind,cpu,id,n,0⟩⟩,(HK.out.alloc _).close (HL.out.alloc _) H0.out⟩
def kFire (k:K) (cpu:Int):K :=
 let r:=timersFire k.tm cpu
 let who:=(mget k.own r.2.1).getD 0
 let k1:K:={ k with tm:=r.1,own:=mdel k.own r.2.1 }
 kDone (if 0 < who then kWake k1 who else k1) cpu
def kFireR (k:K) (cpu:Int):List Rec:=[⟨3,cpu,(timersFire k.tm cpu).2.1,(mget k.own (timersFire k.tm cpu).2.1).getD 0,0⟩]
theorem KAt.kfire (h:KAt w F p f k) (hf:fewT k.tm) (cpu:Int):Calls prog 204 #[.pointer (some ⟨p,0,none⟩),.int .i64 cpu] w fun e w'=>KR w F p f (kFire k cpu) (kFireR k cpu) e w':=by
 have P:=h.ktfire hf cpu
 have c2:=h.h2;have H0:=Hd h;have HK:=Hd h;have HL:=Hd (Lk.refl w F);clear h;unfold kFire kFireR
 obtain ⟨r,hr⟩:∃ r,r=timersFire k.tm cpu:=⟨_,rfl⟩
 rw [← hr] at P ⊢;replace hr:=Hd hr;obtain ⟨t1,id,why⟩:=r;dsimp only at P ⊢;replace P:=Hd P
 obtain ⟨who,hw⟩:∃ who,who=(mget k.own id).getD 0:=⟨_,rfl⟩
 rw [← hw];replace hw:=Hd hw
 by_cases hp:0 < who
 ·rw [if_pos hp]
  go_enter func204,ntmps204
  go_wp2_with fail;refine P.out.mono ?_;rintro e w1 ⟨rfl,S⟩;clear P c2;replace S:=S.nx HL.out;clear HL HK;obtain ⟨F1,HK,HL⟩:=S
  try dsimp only at HK
  have L1:=HK.out.look1 id
  dsimp only at L1;rw [← hw.out] at L1;have c20:=HK.out.hom
  have R:=fun ty=>HK.out.run_del id ty
  have S:=HK.out.del id
  have L2:=L1;clear L1;replace S:=S.nx HL.out;clear HL HK;obtain ⟨F1,HK,HL⟩:=S
  try dsimp only at HK
  have P:=Hd (HK.out.kwake who);go_wp2_with fail;refine P.out.mono ?_;rintro e w1 ⟨rfl,S⟩;clear P L2 c20 R;replace S:=S.nx HL.out;clear HL HK;obtain ⟨F1,HK,HL⟩:=S
  try dsimp only at HK
  have P:=Hd (HK.out.kdone cpu 3 id who);go_wp2_with fail;refine P.out.mono ?_;rintro e w1 ⟨⟨v,rfl,hv⟩,S⟩;replace hv:=Hd (hv.lift HL.out);clear P;replace S:=S.nx HL.out;clear HL HK;obtain ⟨F1,HK,HL⟩:=S
  try dsimp only at HK
  go_wp2;go_returns
  exact ⟨⟨_,rfl,hv.out⟩,HK.out.close HL.out H0.out⟩
 ·rw [if_neg hp]
  go_enter func204,ntmps204
  go_wp2_with fail;refine P.out.mono ?_;rintro e w1 ⟨rfl,S⟩;clear P c2;replace S:=S.nx HL.out;clear HL HK;obtain ⟨F1,HK,HL⟩:=S
  try dsimp only at HK
  have L1:=HK.out.look1 id
  dsimp only at L1;rw [← hw.out] at L1;have c20:=HK.out.hom
  have R:=fun ty=>HK.out.run_del id ty
  have S:=HK.out.del id
  have L2:=L1;clear L1;replace S:=S.nx HL.out;clear HL HK;obtain ⟨F1,HK,HL⟩:=S
  try dsimp only at HK
  have P:=Hd (HK.out.kdone cpu 3 id who);go_wp2_with fail;refine P.out.mono ?_;rintro e w1 ⟨⟨v,rfl,hv⟩,S⟩;replace hv:=Hd (hv.lift HL.out);clear P;replace S:=S.nx HL.out;clear HL HK;obtain ⟨F1,HK,HL⟩:=S
  try dsimp only at HK
  go_wp2;go_returns
  exact ⟨⟨_,rfl,hv.out⟩,HK.out.close HL.out H0.out⟩
end
section
open Go.Proofs.YtiocbpabbjgkhaaGreatDoor.NumD
def Fst (P:Int→Bool) (l:List Int) (i:Int):Prop:=(i=-1∧∀ j,j < l.length→P (l.getD j 0)=false)∨(∃ n:Nat,i=n∧n < l.length∧P (l.getD n 0)=true∧∀ j,j < n→P (l.getD j 0)=false)
theorem Fst.find {P:Int→Bool} {l:List Int} {i:Int} (h:Fst P l i):(i=-1∧l.find? P=none)∨(∃ n:Nat,i=n∧n < l.length∧l.find? P=some (l.getD n 0)):=by
 rcases h with ⟨h1,h2⟩ | ⟨n,h1,h2,h3,h4⟩
 ·refine .inl ⟨h1,List.find?_eq_none.2 fun x hx=>?_⟩
  obtain ⟨j,hj,rfl⟩:=List.mem_iff_getElem.1 hx
  have:=h2 j hj
  rw [List.getD_eq_getElem?_getD,List.getElem?_eq_getElem hj] at this
  simpa using this
 ·refine .inr ⟨n,h1,h2,?_⟩
  rw [List.getD_eq_getElem?_getD,List.getElem?_eq_getElem h2] at h3 ⊢
  refine List.find?_eq_some_iff_getElem.2 ⟨by simpa using h3,n,h2,rfl,fun j hj=>?_⟩
  have:=h4 j hj
  rw [List.getD_eq_getElem?_getD,List.getElem?_eq_getElem (by omega)] at this
  simpa using this
theorem idx_any (w:World) {G:Nat→Prop} {v:Value} {l:List Int} (h:IntsAt w G v l) (P:Int→Bool) (q:Nat) (hp:∀ x,Calls prog 32 #[.pointer (some ⟨q,0,none⟩),.int .i64 x] w fun e w'=>e=.returned (.bool (P x))∧w=w') :
  Calls prog 258 #[v,.func (.func 32) #[.pointer (some ⟨q,0,none⟩)] #[]] w fun e w'=>(∃ i,e=.returned (.int .i64 i)∧Fst P l i)∧w=w':=by
 by_cases hl:0 < l.length
 ·obtain ⟨g,cap,rfl,h1,h2,h3,h4,h5,h6⟩:=h.open hl
  have hm:=h.len;unfold maxLen at hm
  obtain ⟨n,hn⟩:∃ n,n=l.length:=⟨_,rfl⟩
  have hc:=h5
  have hlen:l.length=n:=hn.symm
  rw [hlen] at hc hm ⊢;clear hn;have hn:=Hd hlen;clear hlen hl;clear h5 h6 h;replace hp:=Hd hp;replace hc:=Hd hc
  go_enter func258,ntmps258
  go_wp2
  go_loopg [5,8] n (fun gg _ s8 wr=>∃ kk:Nat,kk≤n∧n - kk≤gg∧s8=.int .i64 kk∧wr=w∧Aside (∀ j,j < kk→P (l.getD j 0)=false))
  case atStart=>exact ⟨0,Nat.zero_le _,by omega,rfl,rfl,fun j hj=>absurd hj (Nat.not_lt_zero _)⟩
  case round =>
   obtain ⟨kk,hkk,hg,rfl,rfl,A⟩:=hrel
   by_cases hlt:kk < n
   ·have hltz:(kk:Int) < (n:Int):=by omega
    have hcell:=hc.out kk hlt
    generalize hy:l.getD kk 0=y at hcell
    have B:Aside (l.getD kk 0=y):=hy
    clear hy
    have hcall:=hp.out y
    cases hq:P y with
    | true =>
     rw [hq] at hcall;replace hcall:=Hd hcall;go_wp2_with fail;refine hcall.out.mono ?_;rintro e w' ⟨rfl,rfl⟩;go_wp2;go_returns
     exact ⟨⟨_,rfl,.inr ⟨kk,rfl,by have:=hn.out;omega,by rw [B.out];exact hq,A.out⟩⟩,rfl⟩
    | false =>
     rw [hq] at hcall;replace hcall:=Hd hcall;go_wp2_with fail;refine hcall.out.mono ?_;rintro e w' ⟨rfl,rfl⟩;go_wp2
     go_roundg (n - (kk+1))
     case measure=>omega
     case rel =>
      refine ⟨kk+1,by omega,by omega,by go_num,rfl,(show Aside _ from fun j hj=>?_)⟩
      by_cases e:j=kk
      ·subst e
       rw [B.out];exact hq
      ·exact A.out j (by omega)
   ·have hltz:¬ (kk:Int) < (n:Int):=by omega
    have:kk=n:=by omega
    subst this;go_wp2;go_returns
    exact ⟨⟨_,rfl,.inl ⟨rfl,fun j hj=>A.out j (by have:=hn.out;omega)⟩⟩,rfl⟩
 ·have e:l=[]:=List.length_eq_zero_iff.1 (by omega)
  subst e
  obtain ⟨base,cap,rfl⟩:=RowAt.form h
  refine (index0_any w base cap _).mono ?_;rintro e w' ⟨rfl,rfl⟩
  exact ⟨⟨_,rfl,.inl ⟨rfl,fun j hj=>absurd hj (Nat.not_lt_zero _)⟩⟩,rfl⟩
def kWaits (k:K) (cpu:Int):Int × Bool:=match (routeOn k.rt cpu).find? (irqReady k.iq) with | none=>(0,false) | some n=>(n,true)
theorem KAt.kwaits (h:KAt w F p f k) (cpu:Int):Calls prog 186 #[.pointer (some ⟨p,0,none⟩),.int .i64 cpu] w fun e w'=>e=.returned (.tuple #[.int .i64 (kWaits k cpu).1,.bool (kWaits k cpu).2])∧Below w.heap.size w w':=by
 have HK:=Hd h;unfold kWaits
 have A:=h.koon cpu
 have c4:=h.h4
 obtain ⟨l,hl⟩:∃ l,l=routeOn k.rt cpu:=⟨_,rfl⟩
 rw [← hl] at A ⊢;clear hl;replace A:=Hd A
 obtain ⟨u,hu⟩:∃ u,u=l.find? (irqReady k.iq):=⟨_,rfl⟩
 rw [← hu];replace hu:=Hd hu;clear h
 go_enter func186,ntmps186
 go_wp2_with fail;refine A.out.mono ?_;rintro e w1 ⟨⟨v,rfl,hv⟩,hb⟩
 have HK1:=HK.out.below hb
 have B:=Hd (idx_any w1 hv (irqReady k.iq) (f.pt 3) (fun x=>HK1.kiready x))
 have c3:=HK1.h3;replace HK1:=Hd HK1;clear c4 A;go_wp2_with fail;refine B.out.mono ?_;rintro e w2 ⟨⟨i,rfl,hi⟩,rfl⟩
 rcases hi.find with ⟨rfl,hn⟩ | ⟨n,rfl,hlt,hn⟩
 ·have:u=none:=by rw [hu.out];exact hn
  subst this;clear hv B hi hn;go_wp2;go_returns
  exact ⟨rfl,hb⟩
 ·have:u=some (l.getD n 0):=by rw [hu.out];exact hn
  subst this
  obtain ⟨g,cap,rfl,h1,h2,h3,h4,h5,h6⟩:=hv.open (by omega)
  have hcell:=h5 n hlt
  have hm:=hv.len;unfold maxLen at hm
  have hneg:¬ ((n:Int) < 0):=by omega
  clear hv B hi hn h5 h6;generalize hy:l.getD n 0=y at *;replace hy:=Hd hy
  obtain ⟨m,hm2⟩:∃ m,m=l.length:=⟨_,rfl⟩
  have hlt':n < m:=by omega
  rw [← hm2];clear hm2 hlt h1 h2 h3 h4 hm;go_wp2;go_returns;have hy:=hy.out;subst hy
  exact ⟨rfl,hb⟩
end
section
structure Aft (w0:World) where
 w:World
 h:Below w0.heap.size w0 w
instance (w0:World):Nonempty (Aft w0):=⟨⟨w0,Below.refl _ _⟩⟩
section
variable {P : Program}
theorem aft0 (w:World):∃ x:Aft w,w.drew=x.w:=⟨⟨w.drew,(Below.refl _ w).drew⟩,rfl⟩
theorem wp_region_aft {id:Nat} {Q:Exit→Act→World→Prop} {a:Act} {l:List Oper} (hm:P.follows .mixedOrders=true) (hB:Region.lexB .any l.toArray=true)
  (h:wpQuiet P l.toArray (fun w'=>∃ x:Aft w,w'=x.w) (fun a'=>∀ w',(∃ x:Aft w,w'=x.w)→Q .normal a' w') l a):(Code.region id l.toArray true).wp P Q a w :=
 wp_region_quiet (C:=fun w'=>∃ x:Aft w,w'=x.w) hm hB (aft0 w) (by simpa using h)
theorem region_tail_aft {id:Nat} {Q:Exit→Act→World→Prop} {a:Act} {l:List Oper} (n:Nat) (hm:P.follows .mixedOrders=true) (hB:Region.lexTailB .any l.toArray n=true)
  (h:wpQuiet P l.toArray (fun w'=>∃ x:Aft w,w'=x.w) (fun a'=>∀ w',(∃ x:Aft w,w'=x.w)→wpList P l.toArray Q (l.drop n) a' w') (l.take n) a):(Code.region id l.toArray true).wp P Q a w :=
 region_tailC (C:=fun w'=>∃ x:Aft w,w'=x.w) n hm hB (aft0 w) h
theorem quiet_aft {f:FuncId} {args:Array Value} {w0:World} {x:Aft w0} {v:Value} (h:Calls P f args x.w fun e w'=>e=.returned v∧Below x.w.heap.size x.w w'):Calls P f args x.w fun e w'=>e=.returned v∧∃ y:Aft w0,w'=y.w :=
 h.mono fun e w' ⟨he,hb⟩=>⟨he,⟨w',x.h.trans (hb.mono x.h.size)⟩,rfl⟩
theorem quiet_aft0 {f:FuncId} {args:Array Value} {w0:World} {x:Aft w0} {v:Value} (h:Calls P f args x.w fun e w'=>e=.returned v∧x.w=w'):Calls P f args x.w fun e w'=>e=.returned v∧∃ y:Aft w0,w'=y.w :=
 h.mono fun e w' ⟨he,hb⟩=>⟨he,x,hb.symm⟩
theorem quiet_aftD {f:FuncId} {args:Array Value} {w0:World} {x:Aft w0} {v:Value} (h:Calls P f args x.w fun e w'=>e=.returned v∧∃ n,w'=x.w.drewN n):Calls P f args x.w fun e w'=>e=.returned v∧∃ y:Aft w0,w'=y.w :=
 h.mono fun e w' ⟨he,n,hn⟩=>⟨he,⟨x.w.drewN n,x.h.trans ((belowN x.w n).mono x.h.size)⟩,hn⟩
end
end
section
open Go.Proofs.YtiocbpabbjgkhaaGreatDoor.NumD
def kHot (k:K) (cpu:Int):Bool:=deskBusy k.dk && deskBy k.dk == cpu
def kWork (k:K) (cpu:Int):Bool:=decide (0 < wrap64 (worksLoad k.wk cpu+worksLoad k.wk (-1)))
def flagsV (k:K) (cpu:Int):Array Value:=#[.bool (stopMust k.st cpu),.bool (hasF k.st.held cpu),.bool (kHot k cpu),.bool (hasF k.active cpu),.bool (decide (0 < boxLoad k.cl cpu)),.bool (kWaits k cpu).2,.bool (timersReady k.tm cpu),.bool (kWork k cpu),.bool (decide (0 < runqLoad k.qs cpu))]
theorem Blk.self {b:Nat} {cs:Array Value} {t:TypeId} (h:Blk w b cs t) (o:Nat) (v:Value) (ho:o < cs.size):(w.setCell ⟨b,o,none⟩ v).cell? ⟨b,o,none⟩=some v:=by
 rw [(h.set o v).cell,Array.getElem?_setIfInBounds_self_of_lt ho]
theorem nine {b:Nat} {t:TypeId} {cs:Array Value} (h:Blk w b cs t) (hs:cs.size=9) (a0 a1 a2 a3 a4 a5 a6 a7 a8:Value):(w.setCell ⟨b,0,none⟩ a0).cell? ⟨b,0,none⟩=some a0∧((w.setCell ⟨b,0,none⟩ a0).setCell ⟨b,1,none⟩ a1).cell? ⟨b,1,none⟩=some a1∧(((w.setCell ⟨b,0,none⟩ a0).setCell ⟨b,1,none⟩ a1).setCell ⟨b,2,none⟩ a2).cell? ⟨b,2,none⟩=some a2∧((((w.setCell ⟨b,0,none⟩ a0).setCell ⟨b,1,none⟩ a1).setCell ⟨b,2,none⟩ a2).setCell ⟨b,3,none⟩ a3).cell? ⟨b,3,none⟩=some a3∧(((((w.setCell ⟨b,0,none⟩ a0).setCell ⟨b,1,none⟩ a1).setCell ⟨b,2,none⟩ a2).setCell ⟨b,3,none⟩ a3).setCell ⟨b,4,none⟩ a4).cell? ⟨b,4,none⟩=some a4∧((((((w.setCell ⟨b,0,none⟩ a0).setCell ⟨b,1,none⟩ a1).setCell ⟨b,2,none⟩ a2).setCell ⟨b,3,none⟩ a3).setCell ⟨b,4,none⟩ a4).setCell ⟨b,5,none⟩ a5).cell? ⟨b,5,none⟩=some a5∧(((((((w.setCell ⟨b,0,none⟩ a0).setCell ⟨b,1,none⟩ a1).setCell ⟨b,2,none⟩ a2).setCell ⟨b,3,none⟩ a3).setCell ⟨b,4,none⟩ a4).setCell ⟨b,5,none⟩ a5).setCell ⟨b,6,none⟩ a6).cell? ⟨b,6,none⟩=some a6∧((((((((w.setCell ⟨b,0,none⟩ a0).setCell ⟨b,1,none⟩ a1).setCell ⟨b,2,none⟩ a2).setCell ⟨b,3,none⟩ a3).setCell ⟨b,4,none⟩ a4).setCell ⟨b,5,none⟩ a5).setCell ⟨b,6,none⟩ a6).setCell ⟨b,7,none⟩ a7).cell? ⟨b,7,none⟩=some a7∧(((((((((w.setCell ⟨b,0,none⟩ a0).setCell ⟨b,1,none⟩ a1).setCell ⟨b,2,none⟩ a2).setCell ⟨b,3,none⟩ a3).setCell ⟨b,4,none⟩ a4).setCell ⟨b,5,none⟩ a5).setCell ⟨b,6,none⟩ a6).setCell ⟨b,7,none⟩ a7).setCell ⟨b,8,none⟩ a8).cell? ⟨b,8,none⟩=some a8 :=
 ⟨h.self 0 a0 (by simp [hs]),(h.set 0 a0).self 1 a1 (by simp [hs]),((h.set 0 a0).set 1 a1).self 2 a2 (by simp [hs]),(((h.set 0 a0).set 1 a1).set 2 a2).self 3 a3 (by simp [hs]),((((h.set 0 a0).set 1 a1).set 2 a2).set 3 a3).self 4 a4 (by simp [hs]),(((((h.set 0 a0).set 1 a1).set 2 a2).set 3 a3).set 4 a4).self 5 a5 (by simp [hs]),((((((h.set 0 a0).set 1 a1).set 2 a2).set 3 a3).set 4 a4).set 5 a5).self 6 a6 (by simp [hs]),(((((((h.set 0 a0).set 1 a1).set 2 a2).set 3 a3).set 4 a4).set 5 a5).set 6 a6).self 7 a7 (by simp [hs]),((((((((h.set 0 a0).set 1 a1).set 2 a2).set 3 a3).set 4 a4).set 5 a5).set 6 a6).set 7 a7).self 8 a8 (by simp [hs])⟩
theorem below9 {B b:Nat} {W0 w:World} (h:Below B W0 w) (hb:B≤b) (a0 a1 a2 a3 a4 a5 a6 a7 a8:Value):Below B W0 (((((((((w.setCell ⟨b,0,none⟩ a0).setCell ⟨b,1,none⟩ a1).setCell ⟨b,2,none⟩ a2).setCell ⟨b,3,none⟩ a3).setCell ⟨b,4,none⟩ a4).setCell ⟨b,5,none⟩ a5).setCell ⟨b,6,none⟩ a6).setCell ⟨b,7,none⟩ a7).setCell ⟨b,8,none⟩ a8):=(((((((((h.setCell (p:=⟨b,0,none⟩) hb a0).setCell (p:=⟨b,1,none⟩) hb a1).setCell (p:=⟨b,2,none⟩) hb a2).setCell (p:=⟨b,3,none⟩) hb a3).setCell (p:=⟨b,4,none⟩) hb a4).setCell (p:=⟨b,5,none⟩) hb a5).setCell (p:=⟨b,6,none⟩) hb a6).setCell (p:=⟨b,7,none⟩) hb a7).setCell (p:=⟨b,8,none⟩) hb a8)
theorem KAt.kflags (h:KAt w F p f k) (hf:fewT k.tm) (cpu:Int):Calls prog 119 #[.pointer (some ⟨p,0,none⟩),.int .i64 cpu] w fun e w'=>e=.returned (.agg (flagsV k cpu))∧Below w.heap.size w w':=by
 have hac:=h.ac;replace hf:=Hd hf;have H0:=Hd h;have HK:=Hd h;have HL:=Hd (Lk.refl w F);clear h
 have H1:=Hd ((Below.refl w.heap.size w).alloc (Nat.le_refl _) (.cells #[.bool false,.bool false,.bool false,.bool false,.bool false,.bool false,.bool false,.bool false,.bool false] 246))
 have HX:=HK.out.bx HL.out #[.bool false,.bool false,.bool false,.bool false,.bool false,.bool false,.bool false,.bool false,.bool false] 246
 clear HL HK;obtain ⟨HB,HK,HL⟩:=HX;unfold flagsV kHot kWork
 have C:=fun w=>has_any k.active hac cpu w
 obtain ⟨v0,e_v0⟩:∃ v,v=stopMust k.st cpu:=⟨_,rfl⟩
 rw [← e_v0];replace e_v0:=Hd e_v0
 obtain ⟨v1,e_v1⟩:∃ v,v=hasF k.st.held cpu:=⟨_,rfl⟩
 rw [← e_v1];replace e_v1:=Hd e_v1
 obtain ⟨v3,e_v3⟩:∃ v,v=hasF k.active cpu:=⟨_,rfl⟩
 rw [← e_v3];rw [← e_v3] at C;replace e_v3:=Hd e_v3
 obtain ⟨l4,e_l4⟩:∃ v,v=boxLoad k.cl cpu:=⟨_,rfl⟩
 rw [← e_l4];replace e_l4:=Hd e_l4
 obtain ⟨u5,e_u5⟩:∃ v,v=kWaits k cpu:=⟨_,rfl⟩
 rw [← e_u5];replace e_u5:=Hd e_u5
 obtain ⟨v6,e_v6⟩:∃ v,v=timersReady k.tm cpu:=⟨_,rfl⟩
 rw [← e_v6];replace e_v6:=Hd e_v6
 obtain ⟨lx,e_lx⟩:∃ v,v=worksLoad k.wk cpu:=⟨_,rfl⟩
 rw [← e_lx];replace e_lx:=Hd e_lx
 obtain ⟨ly,e_ly⟩:∃ v,v=worksLoad k.wk (-1):=⟨_,rfl⟩
 rw [← e_ly];replace e_ly:=Hd e_ly
 obtain ⟨l8,e_l8⟩:∃ v,v=runqLoad k.qs cpu:=⟨_,rfl⟩
 rw [← e_l8];replace e_l8:=Hd e_l8
 obtain ⟨by2,e_by2⟩:∃ v,v=deskBy k.dk:=⟨_,rfl⟩
 rw [← e_by2];replace e_by2:=Hd e_by2;replace C:=Hd C;obtain ⟨n5,v5⟩:=u5;dsimp only;replace hac:=Hd hac
 cases hb:deskBusy k.dk with
 | false =>
  rw [Bool.false_and];replace hb:=Hd hb
  go_enter func119,ntmps119
  have P:=HK.out.kwaits cpu
  rw [← e_u5.out] at P;replace P:=Hd P;go_wp2_with fail;refine P.out.mono ?_;rintro e w1 ⟨rfl,S⟩;clear P
  replace H1:=Hd (H1.out.trans (S.mono H1.out.size))
  replace HB:=Hd (HB.out.lk (Lk.of_below S))
  replace HL:=Hd (HL.out.below S);replace HK:=Hd (HK.out.below S);clear S
  have c10:=fun x:Aft w1=>(HK.out.below x.h).h10
  have c11:=fun x:Aft w1=>(HK.out.below x.h).h11
  have cac:=fun x:Aft w1=>(HK.out.below x.h).hac
  have c6:=fun x:Aft w1=>(HK.out.below x.h).h6
  have c2:=fun x:Aft w1=>(HK.out.below x.h).h2
  have c5:=fun x:Aft w1=>(HK.out.below x.h).h5
  have c1:=fun x:Aft w1=>(HK.out.below x.h).h1
  have A1:=fun x:Aft w1=>(HK.out.below x.h).ksmust cpu
  rw [← e_v0.out] at A1
  replace A1:=fun x=>Hd (A1 x)
  have A2:=fun x:Aft w1=>(HK.out.below x.h).ksheld cpu
  rw [← e_v1.out] at A2
  replace A2:=fun x=>Hd (A2 x)
  have A3:=fun x:Aft w1=>(HK.out.below x.h).kdbusy
  rw [hb.out] at A3
  replace A3:=fun x=>Hd (A3 x)
  have A4:=fun x:Aft w1=>(HK.out.below x.h).kbload cpu
  rw [← e_l4.out] at A4
  replace A4:=fun x=>Hd (A4 x)
  have A5:=fun x:Aft w1=>(HK.out.below x.h).ktready hf.out cpu
  rw [← e_v6.out] at A5
  replace A5:=fun x=>Hd (A5 x)
  have A6:=fun x:Aft w1=>(HK.out.below x.h).klload cpu
  rw [← e_lx.out] at A6
  replace A6:=fun x=>Hd (A6 x)
  have A7:=fun x:Aft w1=>(HK.out.below x.h).klload (-1)
  rw [← e_ly.out] at A7
  replace A7:=fun x=>Hd (A7 x)
  have A8:=fun x:Aft w1=>(HK.out.below x.h).krload cpu
  rw [← e_l8.out] at A8
  replace A8:=fun x=>Hd (A8 x)
  go_wp2
  dsimp only [List.append]
  refine region_tail_aft 76 ?_ ?_ ?_
  ·kernel_rfl
  ·kernel_rfl
  simp only [List.take_succ_cons,List.take_zero,List.drop_succ_cons,List.drop_zero]
  repeat (go_big_quiet_step (first | (go_at_call 33;exact quiet_aftD (A1 _).out) | (go_at_call 20;exact quiet_aft0 (A2 _).out) | (go_at_call 35;exact quiet_aft0 (A3 _).out) | (go_at_call 18;exact quiet_aft0 (C.out _)) | (go_at_call 22;exact quiet_aft (A4 _).out) | (go_at_call 24;exact quiet_aft (A5 _).out) | (go_at_call 26;first | with_reducible exact quiet_aft (A6 _).out | with_reducible exact quiet_aft (A7 _).out) | (go_at_call 28;exact quiet_aft0 (A8 _).out)))
  refine wpQuiet_nil ?_
  rintro _ ⟨nx,rfl⟩
  replace H1:=Hd (H1.out.trans (nx.h.mono H1.out.size))
  replace HB:=Hd (HB.out.lk (Lk.of_below nx.h))
  replace HL:=Hd (HL.out.below nx.h);replace HK:=Hd (HK.out.below nx.h);clear c10 c11 cac c6 c2 c5 c1 A1 A2 A3 A4 A5 A6 A7 A8 C
  have fr:=fun o=>HB.out.blk.frozen o
  have k0:=HB.out.cell 0;have k1:=HB.out.cell 1;have k2:=HB.out.cell 2;have k3:=HB.out.cell 3;have k4:=HB.out.cell 4;have k5:=HB.out.cell 5;have k6:=HB.out.cell 6;have k7:=HB.out.cell 7;have k8:=HB.out.cell 8
  obtain ⟨y0,y1,y2,y3,y4,y5,y6,y7,y8⟩:=nine HB.out.blk rfl (.bool (v0)) (.bool (v1)) (.bool (false)) (.bool (v3)) (.bool (decide (0 < l4))) (.bool (v5)) (.bool (v6)) (.bool (decide (0 < wrap64 (lx+ly)))) (.bool (decide (0 < l8)))
  go_wp2
  refine bodyPost_ret (v:=.agg #[.bool (v0),.bool (v1),.bool (false),.bool (v3),.bool (decide (0 < l4)),.bool (v5),.bool (v6),.bool (decide (0 < wrap64 (lx+ly))),.bool (decide (0 < l8))]) (by simp [results,results119,go_sem,y0,y1,y2,y3,y4,y5,y6,y7,y8]) rfl ⟨rfl,?_⟩
  exact below9 H1.out (Nat.le_refl _) _ _ _ _ _ _ _ _ _
 | true =>
  rw [Bool.true_and];replace hb:=Hd hb
  go_enter func119,ntmps119
  have P:=HK.out.kwaits cpu
  rw [← e_u5.out] at P;replace P:=Hd P;go_wp2_with fail;refine P.out.mono ?_;rintro e w1 ⟨rfl,S⟩;clear P
  replace H1:=Hd (H1.out.trans (S.mono H1.out.size))
  replace HB:=Hd (HB.out.lk (Lk.of_below S))
  replace HL:=Hd (HL.out.below S);replace HK:=Hd (HK.out.below S);clear S
  have c10:=fun x:Aft w1=>(HK.out.below x.h).h10
  have c11:=fun x:Aft w1=>(HK.out.below x.h).h11
  have cac:=fun x:Aft w1=>(HK.out.below x.h).hac
  have c6:=fun x:Aft w1=>(HK.out.below x.h).h6
  have c2:=fun x:Aft w1=>(HK.out.below x.h).h2
  have c5:=fun x:Aft w1=>(HK.out.below x.h).h5
  have c1:=fun x:Aft w1=>(HK.out.below x.h).h1
  have A1:=fun x:Aft w1=>(HK.out.below x.h).ksmust cpu
  rw [← e_v0.out] at A1
  replace A1:=fun x=>Hd (A1 x)
  have A2:=fun x:Aft w1=>(HK.out.below x.h).ksheld cpu
  rw [← e_v1.out] at A2
  replace A2:=fun x=>Hd (A2 x)
  have A3:=fun x:Aft w1=>(HK.out.below x.h).kdbusy
  rw [hb.out] at A3
  replace A3:=fun x=>Hd (A3 x)
  have A4:=fun x:Aft w1=>(HK.out.below x.h).kbload cpu
  rw [← e_l4.out] at A4
  replace A4:=fun x=>Hd (A4 x)
  have A5:=fun x:Aft w1=>(HK.out.below x.h).ktready hf.out cpu
  rw [← e_v6.out] at A5
  replace A5:=fun x=>Hd (A5 x)
  have A6:=fun x:Aft w1=>(HK.out.below x.h).klload cpu
  rw [← e_lx.out] at A6
  replace A6:=fun x=>Hd (A6 x)
  have A7:=fun x:Aft w1=>(HK.out.below x.h).klload (-1)
  rw [← e_ly.out] at A7
  replace A7:=fun x=>Hd (A7 x)
  have A8:=fun x:Aft w1=>(HK.out.below x.h).krload cpu
  rw [← e_l8.out] at A8
  replace A8:=fun x=>Hd (A8 x)
  have A9:=fun x:Aft w1=>(HK.out.below x.h).kdby
  rw [← e_by2.out] at A9
  replace A9:=fun x=>Hd (A9 x)
  go_wp2
  dsimp only [List.append]
  refine region_tail_aft 76 ?_ ?_ ?_
  ·kernel_rfl
  ·kernel_rfl
  simp only [List.take_succ_cons,List.take_zero,List.drop_succ_cons,List.drop_zero]
  repeat (go_big_quiet_step (first | (go_at_call 33;exact quiet_aftD (A1 _).out) | (go_at_call 20;exact quiet_aft0 (A2 _).out) | (go_at_call 35;exact quiet_aft0 (A3 _).out) | (go_at_call 36;exact quiet_aft0 (A9 _).out) | (go_at_call 18;exact quiet_aft0 (C.out _)) | (go_at_call 22;exact quiet_aft (A4 _).out) | (go_at_call 24;exact quiet_aft (A5 _).out) | (go_at_call 26;first | with_reducible exact quiet_aft (A6 _).out | with_reducible exact quiet_aft (A7 _).out) | (go_at_call 28;exact quiet_aft0 (A8 _).out)))
  refine wpQuiet_nil ?_
  rintro _ ⟨nx,rfl⟩
  replace H1:=Hd (H1.out.trans (nx.h.mono H1.out.size))
  replace HB:=Hd (HB.out.lk (Lk.of_below nx.h))
  replace HL:=Hd (HL.out.below nx.h);replace HK:=Hd (HK.out.below nx.h);clear c10 c11 cac c6 c2 c5 c1 A1 A2 A3 A4 A5 A6 A7 A8 C A9
  have fr:=fun o=>HB.out.blk.frozen o
  have k0:=HB.out.cell 0;have k1:=HB.out.cell 1;have k2:=HB.out.cell 2;have k3:=HB.out.cell 3;have k4:=HB.out.cell 4;have k5:=HB.out.cell 5;have k6:=HB.out.cell 6;have k7:=HB.out.cell 7;have k8:=HB.out.cell 8
  obtain ⟨y0,y1,y2,y3,y4,y5,y6,y7,y8⟩:=nine HB.out.blk rfl (.bool (v0)) (.bool (v1)) (.bool (by2 == cpu)) (.bool (v3)) (.bool (decide (0 < l4))) (.bool (v5)) (.bool (v6)) (.bool (decide (0 < wrap64 (lx+ly)))) (.bool (decide (0 < l8)))
  go_wp2
  refine bodyPost_ret (v:=.agg #[.bool (v0),.bool (v1),.bool (by2 == cpu),.bool (v3),.bool (decide (0 < l4)),.bool (v5),.bool (v6),.bool (decide (0 < wrap64 (lx+ly))),.bool (decide (0 < l8))]) (by simp [results,results119,go_sem,y0,y1,y2,y3,y4,y5,y6,y7,y8]) rfl ⟨rfl,?_⟩
  exact below9 H1.out (Nat.le_refl _) _ _ _ _ _ _ _ _ _
end
section
open Go.Proofs.YtiocbpabbjgkhaaGreatDoor.NumD
def kLie (k:K) (cpu:Int):K:={ k with co:=(coreSet k.co cpu (restF (wayF (predF k.now (timersNext k.tm cpu).1 ((timersNext k.tm cpu).2 == 0)) k.limit) k.now)).1 }
theorem table_all (w:World):Calls prog 10 #[] w fun e w'=>e=.returned (.slice (some ⟨w.heap.size,0,none⟩) 4 4)∧w'=w.alloc (.cells tableCells 45):=table_any w
theorem KAt.klie (h:KAt w F p f k) (hf:fewT k.tm) (hx:nextOk k.tm) (cpu:Int) (hd:0≤(timersNext k.tm cpu).1∧(timersNext k.tm cpu).1≤1152921504606846976):Calls prog 124 #[.pointer (some ⟨p,0,none⟩),.int .i64 cpu] w fun e w'=>e=.returned (.tuple #[])∧KS w w' F p f (kLie k cpu):=by
 have P:=h.ktnext hf hx cpu
 have c2:=h.h2;have H0:=Hd h;have HK:=Hd h;have HL:=Hd (Lk.refl w F);clear h;unfold kLie
 obtain ⟨u,hu⟩:∃ u,u=timersNext k.tm cpu:=⟨_,rfl⟩
 rw [← hu] at P hd ⊢;replace hu:=Hd hu;obtain ⟨due,why⟩:=u;dsimp only at P hd ⊢;replace P:=Hd P;replace hd:=Hd hd
 obtain ⟨kn,hkn⟩:∃ b,b=(why == 0):=⟨_,rfl⟩
 rw [← hkn]
 obtain ⟨rest,hrest⟩:∃ r,r=predF k.now due kn:=⟨_,rfl⟩
 rw [← hrest]
 obtain ⟨way,hway⟩:∃ r,r=wayF rest k.limit:=⟨_,rfl⟩
 rw [← hway];replace hrest:=Hd hrest;replace hway:=Hd hway;replace hkn:=Hd hkn
 go_enter func124,ntmps124
 go_wp2_with fail;refine P.out.mono ?_;rintro e w1 ⟨rfl,S⟩;clear P c2;replace HL:=Hd (HL.out.below S);replace HK:=Hd (HK.out.below S);clear S;have c18:=HK.out.hnw
 have P:=pred_any k.now due (why == 0) HK.out.nw.2 hd.out w1
 rw [← hkn.out,← hrest.out] at P;replace P:=Hd P;have hk2:=hkn.out;rw [hkn.out] at P;have c12:=HK.out.h12;have c19:=HK.out.hli
 have KT:=HK.out.alloc (.cells tableCells 45)
 have d12:=KT.h12;have d19:=KT.hli;have d18:=KT.hnw
 have T:Calls prog 10 #[] w1.drew fun e w'=>e=.returned (.slice (some ⟨w1.heap.size,0,none⟩) 4 4)∧w'=(w1.alloc (.cells tableCells 45)).drew:=table_all w1.drew
 have V:=way_any rest k.limit ((w1.alloc (.cells tableCells 45)).drew) w1.heap.size (Blk.new w1 tableCells 45)
 rw [← hway.out] at V
 have R:=(KT.drewN 1).kcrest cpu way k.now
 replace T:=Hd T;replace V:=Hd V;replace R:=Hd R
 replace HL:=Hd (HL.out.alloc (.cells tableCells 45))
 clear KT;go_wp2_with fail;refine P.out.mono ?_;rintro e w2 ⟨rfl,rfl⟩;clear P;go_wp2_with fail
 go_region_held3 (fun w'=>w'.cell? ⟨p,12,none⟩=some (.pointer (some ⟨f.pt 12,0,none⟩))∧w'.cell? ⟨p,19,none⟩=some (.int .i64 k.limit)∧w'.cell? ⟨p,18,none⟩=some (.int .i64 k.now))
  (first
   | go_keep
   | exact ⟨d12,d19,d18⟩
   | exact ⟨S.1.h12,S.1.hli,S.1.hnw⟩
   | (go_split_ands;refine ⟨?_,?_,?_⟩ <;> first | exact S.1.h12 | exact S.1.hli | exact S.1.hnw))
  (first | (go_at_call 10;refine T.out.mono ?_;rintro e w3 ⟨rfl,rfl⟩) | (go_at_call 200;refine V.out.mono ?_;rintro e w3 ⟨rfl,rfl⟩) | (go_at_call 199;refine R.out.mono ?_;rintro e w3 ⟨rfl,S⟩))
 replace HL:=Hd (HL.out.drewN 1);replace S:=S.nx HL.out;clear HL HK;obtain ⟨F1,HK,HL⟩:=S
 try dsimp only at HK
 go_end0
 exact ⟨rfl,HK.out.close HL.out H0.out⟩
end
section
open Go.Proofs.YtiocbpabbjgkhaaGreatDoor.NumD
def kThing (k:K) (cpu what:Int):K × List Rec :=
 if what=4 then (kDone { k with cl:=(boxTake k.cl cpu).1 } cpu,[⟨6,cpu,(boxTake k.cl cpu).2.1,0,0⟩]) else
 if what=5 then (kDone { k with iq:=(irqClear k.iq (kWaits k cpu).1).1 } cpu,[⟨4,cpu,(kWaits k cpu).1,0,0⟩]) else
 if what=6 then (kFire k cpu,kFireR k cpu) else
 if what=7 then (kDone { k with wk:=(worksTake k.wk cpu).1 } cpu,[⟨5,cpu,(worksTake k.wk cpu).2.1,0,0⟩]) else
 (kDone { k with qs:=(runqPick k.qs cpu).1 } cpu,[⟨2,cpu,(runqPick k.qs cpu).2.1,0,0⟩])
theorem KAt.kthing (h:KAt w F p f k) (hf:fewT k.tm) (cpu what:Int):Calls prog 125 #[.pointer (some ⟨p,0,none⟩),.int .i64 cpu,.int .i64 what] w fun e w'=>KR w F p f (kThing k cpu what).1 (kThing k cpu what).2 e w':=by
 replace hf:=Hd hf;have H0:=Hd h;have HK:=Hd h;have HL:=Hd (Lk.refl w F);clear h;unfold kThing
 by_cases h4:what=4
 ·subst h4
  rw [if_pos rfl]
  go_enter func125,ntmps125
  have P:=Hd (HK.out.kbtake cpu);have c6:=HK.out.h6;go_wp2_with fail;refine P.out.mono ?_;rintro e w1 ⟨rfl,S⟩;clear P c6;replace S:=S.nx HL.out;clear HL HK;obtain ⟨F1,HK,HL⟩:=S
  try dsimp only at HK
  have P:=Hd (HK.out.kdone cpu 6 (boxTake k.cl cpu).2.1 0)
  go_wp2_with fail;refine P.out.mono ?_;rintro e w1 ⟨⟨v,rfl,hv⟩,S⟩;replace hv:=Hd (hv.lift HL.out);clear P;replace S:=S.nx HL.out;clear HL HK;obtain ⟨F1,HK,HL⟩:=S
  try dsimp only at HK
  go_wp2;go_returns
  exact ⟨⟨_,rfl,hv.out⟩,HK.out.close HL.out H0.out⟩
 rw [if_neg h4]
 have b4:(what == 4)=false:=by simpa using h4
 by_cases h5:what=5
 ·subst h5
  rw [if_pos rfl];clear h4 b4
  go_enter func125,ntmps125
  have P:=Hd (HK.out.kwaits cpu);go_wp2_with fail;refine P.out.mono ?_;rintro e w1 ⟨rfl,S⟩;clear P
  have L1:=Lk.of_below (F:=fun _=>False) S
  replace HL:=Hd (HL.out.below S);replace HK:=Hd (HK.out.below S);clear S L1
  have P:=Hd (HK.out.kiclear (kWaits k cpu).1)
  have c3:=HK.out.h3;go_wp2_with fail;refine P.out.mono ?_;rintro e w1 ⟨rfl,S⟩;clear P c3;replace S:=S.nx HL.out;clear HL HK;obtain ⟨F1,HK,HL⟩:=S
  try dsimp only at HK
  have P:=Hd (HK.out.kdone cpu 4 (kWaits k cpu).1 0)
  go_wp2_with fail;refine P.out.mono ?_;rintro e w1 ⟨⟨v,rfl,hv⟩,S⟩;replace hv:=Hd (hv.lift HL.out);clear P;replace S:=S.nx HL.out;clear HL HK;obtain ⟨F1,HK,HL⟩:=S
  try dsimp only at HK
  go_wp2;go_returns
  exact ⟨⟨_,rfl,hv.out⟩,HK.out.close HL.out H0.out⟩
 rw [if_neg h5]
 have b5:(what == 5)=false:=by simpa using h5
 by_cases h6:what=6
 ·subst h6
  rw [if_pos rfl];clear h4 b4 h5 b5
  go_enter func125,ntmps125
  have P:=Hd (HK.out.kfire hf.out cpu);go_wp2_with fail;refine P.out.mono ?_;rintro e w1 ⟨⟨v,rfl,hv⟩,S⟩;replace hv:=Hd (hv.lift HL.out);clear P;replace S:=S.nx HL.out;clear HL HK;obtain ⟨F1,HK,HL⟩:=S
  try dsimp only at HK
  go_wp2;go_returns
  exact ⟨⟨_,rfl,hv.out⟩,HK.out.close HL.out H0.out⟩
 rw [if_neg h6]
 have b6:(what == 6)=false:=by simpa using h6
 by_cases h7:what=7
 ·subst h7
  rw [if_pos rfl];clear h4 b4 h5 b5 h6 b6
  go_enter func125,ntmps125
  have P:=Hd (HK.out.kltake cpu);have c5:=HK.out.h5;go_wp2_with fail;refine P.out.mono ?_;rintro e w1 ⟨rfl,S⟩;clear P c5;replace S:=S.nx HL.out;clear HL HK;obtain ⟨F1,HK,HL⟩:=S
  try dsimp only at HK
  have P:=Hd (HK.out.kdone cpu 5 (worksTake k.wk cpu).2.1 0)
  go_wp2_with fail;refine P.out.mono ?_;rintro e w1 ⟨⟨v,rfl,hv⟩,S⟩;replace hv:=Hd (hv.lift HL.out);clear P;replace S:=S.nx HL.out;clear HL HK;obtain ⟨F1,HK,HL⟩:=S
  try dsimp only at HK
  go_wp2;go_returns
  exact ⟨⟨_,rfl,hv.out⟩,HK.out.close HL.out H0.out⟩
 rw [if_neg h7]
 have b7:(what == 7)=false:=by simpa using h7
 go_enter func125,ntmps125
 have P:=Hd (HK.out.krpick cpu);have c1:=HK.out.h1;go_wp2_with fail;refine P.out.mono ?_;rintro e w1 ⟨rfl,S⟩;clear P c1;replace S:=S.nx HL.out;clear HL HK;obtain ⟨F1,HK,HL⟩:=S
 try dsimp only at HK
 have P:=Hd (HK.out.kdone cpu 2 (runqPick k.qs cpu).2.1 0)
 go_wp2_with fail;refine P.out.mono ?_;rintro e w1 ⟨⟨v,rfl,hv⟩,S⟩;replace hv:=Hd (hv.lift HL.out);clear P;replace S:=S.nx HL.out;clear HL HK;obtain ⟨F1,HK,HL⟩:=S
 try dsimp only at HK
 go_wp2;go_returns
 exact ⟨⟨_,rfl,hv.out⟩,HK.out.close HL.out H0.out⟩
end
section
open Go.Proofs.YtiocbpabbjgkhaaGreatDoor.NumD
def kEmpty (k:K) (cpu:Int):K × Bool:=match runqList k.qs cpu with | []=>(k,true) | x::_=>(kPut { k with qs:=(runqTake k.qs x).1 } x cpu,false)
theorem KAt.kempty (h:KAt w F p f k) (cpu:Int):Calls prog 315 #[.pointer (some ⟨p,0,none⟩),.int .i64 cpu] w fun e w'=>e=.returned (.bool (kEmpty k cpu).2)∧KS w w' F p f (kEmpty k cpu).1:=by
 have P:=h.krlist cpu
 have c1:=h.h1;have H0:=Hd h;have HK:=Hd h;have HL:=Hd (Lk.refl w F);clear h;unfold kEmpty
 cases hl:runqList k.qs cpu with
 | nil =>
  rw [hl] at P;replace P:=Hd P;replace hl:=Hd hl
  go_enter func315,ntmps315
  go_wp2_with fail;refine P.out.mono ?_;rintro e w1 ⟨⟨v,rfl,hv⟩,S⟩
  obtain ⟨base,cap,rfl⟩:=RowAt.form hv
  clear P hv;replace HL:=Hd (HL.out.below S);replace HK:=Hd (HK.out.below S);clear S;go_wp2;go_returns
  exact ⟨rfl,HK.out.close HL.out H0.out⟩
 | cons x t =>
  rw [hl] at P;replace P:=Hd P;replace hl:=Hd hl
  go_enter func315,ntmps315
  go_wp2_with fail;refine P.out.mono ?_;rintro e w1 ⟨⟨v,rfl,hv⟩,S⟩
  obtain ⟨g,cap,rfl,i1,i2,i3,i4,i5,i6⟩:=hv.open (by simp)
  have hx:w1.cell? ⟨g,0,none⟩=some (.int .i64 x):=i5 0 (by simp)
  have hm:=hv.len;unfold maxLen at hm
  obtain ⟨n,hn⟩:∃ n,n=(x::t).length:=⟨_,rfl⟩
  have hpos:0 < n:=by rw [hn];simp
  rw [← hn] at hm ⊢
  have hg:¬ F g:=fun e=>by have:=H0.out.ltF g e;have h3:w.heap.size≤g:=i3;omega
  replace hg:=Hd hg;have hgs:=Hd i4;clear P hv c1 i1 i2 i3 i4 i5 i6 hn;replace HL:=Hd (HL.out.below S);replace HK:=Hd (HK.out.below S);clear S;have c1:=HK.out.h1
  have Q:=fun n=>Hd ((HK.out.drewN n).krtake x)
  go_wp2
  refine region_tailC (C:=fun w'=>∃ k,w'=(w1).drewN k) 8 ?_ ?_ ?_ ?_;(kernel_rfl);(kernel_rfl);(first | exact cls0 _ | exact clsN _ _);simp only [List.take_succ_cons,List.take_zero,List.drop_succ_cons,List.drop_zero];(repeat (go_big_quiet_step (fail)));refine wpQuiet_nil ?_;rintro _ ⟨nq,rfl⟩
  go_wp2_with fail;refine (Q nq).out.mono ?_;rintro e w2 ⟨rfl,S⟩
  have hx2:w2.cell? ⟨g,0,none⟩=some (.int .i64 x):=keepch S.2 hx hg.out
  clear Q hx c1;replace HL:=Hd (HL.out.drewN nq);replace HK:=Hd (HK.out.drewN nq);replace S:=S.nx HL.out;clear HL HK;obtain ⟨F1,HK,HL⟩:=S
  try dsimp only at HK
  have P:=Hd (HK.out.kput x cpu);go_wp2_with fail;refine P.out.mono ?_;rintro e w1 ⟨rfl,S⟩;clear P;replace S:=S.nx HL.out;clear HL HK;obtain ⟨F1,HK,HL⟩:=S
  try dsimp only at HK
  go_wp2;go_returns
  exact ⟨rfl,HK.out.close HL.out H0.out⟩
end
end Go.Proofs.YtiocbpabbjgkhaaGreatDoor
