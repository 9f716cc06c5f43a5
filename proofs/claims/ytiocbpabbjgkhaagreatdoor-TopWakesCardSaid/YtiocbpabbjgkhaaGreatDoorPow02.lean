/- Part 2 of the proof: contracts and plain laws, each under the conditions that it names. -/
import Derived.Test.YtiocbpabbjgkhaaGreatDoorPow01
import Derived.Test.YtiocbpabbjgkhaaGreatDoorProg
import Derived.WalkKit
import Derived.Handy
import Derived.WalkLawsBesides
import Derived.WalkSpells
import Derived.BigQuiet
import Derived.Deep.QuietTactic
import Derived.Lib.Hide
import Derived.Outline
import Derived.Laws.BitsLemmas
import Derived.Deep.DeepCutAuto
import Derived.Deep.CutBlock
import Derived.Deep.LoopGhost
import Derived.Laws.Bits64b
import Derived.Laws.BitsAllLaws
import Derived.Deep.DeepMust
import Derived.Deep.DeepFit
set_option maxRecDepth 100000
set_option maxHeartbeats 20000000
set_option linter.unusedVariables false
set_option linter.unusedSimpArgs false
namespace Go.Proofs.YtiocbpabbjgkhaaGreatDoor.NumB
open Go.RowKit Go.Proofs.YtiocbpabbjgkhaaGreatDoor.NumA
set_option linter.unusedVariables false
theorem div_low (lo y:Nat) (hy:0 < y) (hl:lo < 18446744073709551616) (hy2:y < 18446744073709551616) (w:World) :
  Calls Tryz.prog 174 #[.int .u64 0,.int .u64 lo,.int .u64 y] w fun e w'=>e=.returned (.tuple #[.int .u64 ((lo / y:Nat):Int),.int .u64 ((lo % y:Nat):Int)])∧∃ n,w'=w.drewN n:=by
 have b0:((y:Int) == 0)=false:=by simp;omega
 have b1:¬ ((y:Int)≤0):=by omega
 go_enter Tryz.func174,Tryz.ntmps174
 go_wp2_with fail;go_quiet (fail);go_wp2;go_returns
 have e:IntKind.u64.wrap ((lo:Int) / (y:Int))=((lo / y:Nat):Int):=by
  have h:lo / y≤lo:=Nat.div_le_self _ _
  rw [← Int.natCast_ediv,IntKind.wrap_u64];generalize lo / y=z at *
  omega
 simp only [e,Int.natCast_emod]
 exact ⟨rfl,_,rfl⟩
def DivPost (Z:Nat) (w:World) (e:Ending) (w':World):Prop:=(∃ r:Int,e=.returned (.tuple #[.int .u64 (Z:Int),.int .u64 r]))∧w'=w
theorem ret_u {a b:Int} (h:a=b):Value.int .u64 a=.int .u64 b:=by rw [h]
set_option maxRecDepth 100000 in
set_option maxHeartbeats 8000000 in
theorem div_core (hi lo y s v vn1 vn0 u t d1 d0 q0 r0 Q1 u2 q2 r2 Q2:Nat) (h0:0 < hi) (h1:hi < y) (h2:y < 9223372036854775808) (hl:lo < 18446744073709551616) (hs:Hid (64 - (Lib.bitLen y:Int)=s)) (hs1:1≤s) (hs2:s≤63)
  (e1:IntKind.u64.wrap ((y:Int)*2 ^ s)=(v:Int)) (hvb:v < 18446744073709551616) (e2:(v:Int) / 4294967296=(vn1:Int)) (hv1:2147483648≤vn1) (hv2:vn1 < 4294967296) (e3:bits .and .u64 (v:Int) 4294967295=(vn0:Int)) (hv3:vn0 < 4294967296)
  (e4:bits .or .u64 (IntKind.u64.wrap ((hi:Int)*2 ^ s)) ((lo:Int) / 2 ^ (64 - s))=(u:Int)) (hu:Hid (u < vn1*4294967296+vn0)) (hub:u < 18446744073709551616) (e5:IntKind.u64.wrap ((lo:Int)*2 ^ s)=(t:Int)) (ht:t < 18446744073709551616) (e6:(t:Int) / 4294967296=(d1:Int)) (hd1:d1 < 4294967296)
  (e7:bits .and .u64 (t:Int) 4294967295=(d0:Int)) (hd0:d0 < 4294967296) (e8:IntKind.u64.wrap ((u:Int) / (vn1:Int))=(q0:Int)) (e9:IntKind.u64.wrap ((u:Int) - IntKind.u64.wrap ((q0:Int)*(vn1:Int)))=(r0:Int))
  (Hq0:Hid (u=q0*vn1+r0)) (HGq0:Hid (Q1≤q0)) (hq0:q0≤4294967297) (hr0:r0 < 4294967296) (hQ1:Hid (Q1=(u*4294967296+d1) / (vn1*4294967296+vn0))) (hQ1b:Q1 < 4294967296)
  (e10:IntKind.u64.wrap (IntKind.u64.wrap (IntKind.u64.wrap ((u:Int)*4294967296)+(d1:Int)) - IntKind.u64.wrap ((Q1:Int)*(v:Int)))=(u2:Int)) (hu2:Hid (u2 < vn1*4294967296+vn0)) (e11:IntKind.u64.wrap ((u2:Int) / (vn1:Int))=(q2:Int)) (e12:IntKind.u64.wrap ((u2:Int) - IntKind.u64.wrap ((q2:Int)*(vn1:Int)))=(r2:Int))
  (Hq2:Hid (u2=q2*vn1+r2)) (HGq2:Hid (Q2≤q2)) (hq2:q2≤4294967297) (hr2:r2 < 4294967296) (hQ2:Hid (Q2=(u2*4294967296+d0) / (vn1*4294967296+vn0)))
  (Z:Nat) (e13:IntKind.u64.wrap ((Q1:Int)*4294967296+(Q2:Int))=(Z:Int))
  (w:World) :
  Calls Tryz.prog 174 #[.int .u64 hi,.int .u64 lo,.int .u64 y] w (DivPost Z w):=by
 have b0:((y:Int) == 0)=false:=by simp;omega
 have b1:¬ ((y:Int)≤(hi:Int)):=by omega
 have b2:((hi:Int) == 0)=false:=by simp;omega
 have b3:¬ ((vn1:Int)=0):=by omega
 go_enter Tryz.func174,Tryz.ntmps174
 go_upto_block 0 with (go_at_call 251;refine (Tryz.bits_LeadingZeros64 _ _ (by omega) (by omega)).mono ?_;rintro e w2 ⟨rfl,hw2⟩;rw [hw2,Int.toNat_natCast,hs.out];clear hw2)
 clear e1 e2 e3 e4 e5 e6 e7 e8 e9 b0 b1 b2
 go_cut [15] (fun a wc=>a=.int .u64 (Q1:Int)∧wc=w)
 case first =>
  clear h2 hl ht hub hvb;go_wp2_with fail
  go_loopg [15,16] q0 (fun g a b wr=>∃ q r:Nat,a=.int .u64 (q:Int)∧b=.int .u64 (r:Int)∧Hid (g=q)∧Hid (u=q*vn1+r)∧Hid (Q1≤q)∧Hid (q≤4294967297∧r < 4294967296)∧wr=w)
  case atStart=>exact ⟨q0,r0,rfl,rfl,Hd rfl,Hq0,HGq0,Hd ⟨by omega,by omega⟩,rfl⟩
  case round =>
   obtain ⟨q,r,rfl,rfl,hg,he,hq,hqr,rfl⟩:=hrel;have hqb:=hqr.out.1;have hrb:=hqr.out.2;clear hqr
   have hcase:4294967296≤q∨(q < 4294967296∧r*4294967296+d1 < q*vn0)∨(q < 4294967296∧q*vn0≤r*4294967296+d1):=by
    generalize q*vn0=z
    omega
   rcases hcase with hA | ⟨hA,hP⟩ | ⟨hA,hP⟩
   ·have hbig:Q1 < q:=by
     have:=step_big hu.out hd1 he.out (.inl hA)
     rwa [← hQ1.out] at this
    have hE2:u=(q - 1)*vn1+(r+vn1):=by
     have h:=he.out
     obtain ⟨m,rfl⟩:∃ m,q=m+1:=⟨q - 1,by omega⟩
     rw [Nat.add_mul] at h
     simp only [Nat.add_sub_cancel]
     omega
    have f1:(4294967296:Int)≤(q:Int):=by omega
    have f2:(q:Int)≤4294967297:=by omega
    have f3:(r:Int) < 4294967296:=by omega
    have f5:(vn1:Int) < 4294967296:=by omega
    by_cases hover:4294967296≤r+vn1
    ·have hb3:q - 1=Q1:=by
      obtain ⟨o1,o2⟩:=step_over (d:=d1) hv3 hu.out hE2 hover
      have o3:=step_fits (d:=d1) hu.out hE2 o2
      rw [← hQ1.out] at o3
      have:=hbig
      omega
     have HB3:=Hd hb3
     have f4:(4294967296:Int)≤(r:Int)+(vn1:Int):=by omega
     clear hb3 hE2 hover hbig;clear hA hqb hrb hd1 hd0 hv1 hv2 hv3;go_wp2_with fail
     go_meet
     exact ⟨ret_u (by have:=HB3.out;omega),rfl⟩
    ·have HE2:=Hd hE2
     have hbig2:=Hd hbig;have hrb2:=Hd (show r+vn1 < 4294967296∧q - 1≤4294967297∧1≤q by omega)
     have f4:decide ((4294967296:Int)≤(r:Int)+(vn1:Int))=false:=by rw [decide_eq_false_iff_not];omega
     clear hE2 hover hbig;clear hA hqb hrb hd1 hd0 hv1 hv2 hv3;go_wp2_with fail
     go_roundg (q - 1)
     case measure=>have:=hg.out;have:=hrb2.out;omega
     case rel=>exact ⟨q - 1,r+vn1,ret_u (by have:=hrb2.out;omega),ret_u (by omega),Hd rfl,HE2,Hd (by have:=hbig2.out;omega),Hd ⟨hrb2.out.2.1,hrb2.out.1⟩,rfl⟩
   ·have hbig:Q1 < q:=by
     have:=step_big hu.out hd1 he.out (.inr hP)
     rwa [← hQ1.out] at this
    have hE2:u=(q - 1)*vn1+(r+vn1):=by
     have h:=he.out
     obtain ⟨m,rfl⟩:∃ m,q=m+1:=⟨q - 1,by omega⟩
     rw [Nat.add_mul] at h
     simp only [Nat.add_sub_cancel]
     omega
    have hz:q*vn0≤4294967295*4294967295:=Nat.mul_le_mul (by omega) (by omega)
    have p1:(q:Int)*(vn0:Int)=((q*vn0:Nat):Int):=by simp
    generalize q*vn0=z at *
    have p2:IntKind.u64.wrap (z:Int)=(z:Int):=by rw [IntKind.wrap_u64];omega
    have f1:(q:Int) < 4294967296:=by omega
    have f1b:(1:Int)≤(q:Int):=by omega
    have f3:(r:Int) < 4294967296:=by omega
    have f5:(vn1:Int) < 4294967296:=by omega
    have f6:4294967296*(r:Int)+(d1:Int) < (z:Int):=by omega
    have f7:(d1:Int) < 4294967296:=by omega
    by_cases hover:4294967296≤r+vn1
    ·have hb3:q - 1=Q1:=by
      obtain ⟨o1,o2⟩:=step_over (d:=d1) hv3 hu.out hE2 hover
      have o3:=step_fits (d:=d1) hu.out hE2 o2
      rw [← hQ1.out] at o3
      have:=hbig
      omega
     have HB3:=Hd hb3
     have f4:(4294967296:Int)≤(r:Int)+(vn1:Int):=by omega
     clear hb3 hE2 hover hbig;clear hA hP hqb hrb hz hd1 hd0 hv1 hv2 hv3;go_wp2_with fail
     go_meet
     exact ⟨ret_u (by have:=HB3.out;omega),rfl⟩
    ·have HE2:=Hd hE2
     have hbig2:=Hd hbig;have hrb2:=Hd (show r+vn1 < 4294967296∧q - 1≤4294967297∧1≤q by omega)
     have f4:decide ((4294967296:Int)≤(r:Int)+(vn1:Int))=false:=by rw [decide_eq_false_iff_not];omega
     clear hE2 hover hbig;clear hA hP hqb hrb hz hd1 hd0 hv1 hv2 hv3;go_wp2_with fail
     go_roundg (q - 1)
     case measure=>have:=hg.out;have:=hrb2.out;omega
     case rel=>exact ⟨q - 1,r+vn1,ret_u (by have:=hrb2.out;omega),ret_u (by omega),Hd rfl,HE2,Hd (by have:=hbig2.out;omega),Hd ⟨hrb2.out.2.1,hrb2.out.1⟩,rfl⟩
   ·have hsm:q=Q1:=by
     have:=step_fits hu.out he.out hP
     rw [← hQ1.out] at this
     have:=hq.out
     omega
    have HS:=Hd hsm;clear hsm
    have hz:q*vn0≤4294967295*4294967295:=Nat.mul_le_mul (by omega) (by omega)
    have p1:(q:Int)*(vn0:Int)=((q*vn0:Nat):Int):=by simp
    generalize q*vn0=z at *
    have p2:IntKind.u64.wrap (z:Int)=(z:Int):=by rw [IntKind.wrap_u64];omega
    have f1:decide ((4294967296:Int)≤(q:Int))=false:=by rw [decide_eq_false_iff_not];omega
    have f3:(r:Int) < 4294967296:=by omega
    have f6:decide (4294967296*(r:Int)+(d1:Int) < (z:Int))=false:=by rw [decide_eq_false_iff_not];omega
    have f7:(d1:Int) < 4294967296:=by omega
    clear hA hP hqb hrb hz hd1 hd0 hv1 hv2 hv3;go_wp2_with fail
    go_meet
    exact ⟨ret_u (by have:=HS.out;omega),rfl⟩
 case rest =>
  obtain ⟨rfl,rfl⟩:=hcut;clear b3
  have b3:¬ ((vn1:Int)=0):=by omega
  go_upto_block 2 with fail
  go_cut [18] (fun a wx=>a=.int .u64 (Q2:Int)∧wx=wc)
  case first =>
   clear h2 hl ht hub hvb e10 e11 e12 e13;go_wp2_with fail
   go_loopg [18,16] q2 (fun g a b wr=>∃ q r:Nat,a=.int .u64 (q:Int)∧b=.int .u64 (r:Int)∧Hid (g=q)∧Hid (u2=q*vn1+r)∧Hid (Q2≤q)∧Hid (q≤4294967297∧r < 4294967296)∧wr=wc)
   case atStart=>exact ⟨q2,r2,rfl,rfl,Hd rfl,Hq2,HGq2,Hd ⟨by omega,by omega⟩,rfl⟩
   case round =>
    obtain ⟨q,r,rfl,rfl,hg,he,hq,hqr,rfl⟩:=hrel;have hqb:=hqr.out.1;have hrb:=hqr.out.2;clear hqr
    have hcase:4294967296≤q∨(q < 4294967296∧r*4294967296+d0 < q*vn0)∨(q < 4294967296∧q*vn0≤r*4294967296+d0):=by
     generalize q*vn0=z
     omega
    rcases hcase with hA | ⟨hA,hP⟩ | ⟨hA,hP⟩
    ·have hbig:Q2 < q:=by
      have:=step_big hu2.out hd0 he.out (.inl hA)
      rwa [← hQ2.out] at this
     have hE2:u2=(q - 1)*vn1+(r+vn1):=by
      have h:=he.out
      obtain ⟨m,rfl⟩:∃ m,q=m+1:=⟨q - 1,by omega⟩
      rw [Nat.add_mul] at h
      simp only [Nat.add_sub_cancel]
      omega
     have f1:(4294967296:Int)≤(q:Int):=by omega
     have f2:(q:Int)≤4294967297:=by omega
     have f3:(r:Int) < 4294967296:=by omega
     have f5:(vn1:Int) < 4294967296:=by omega
     by_cases hover:4294967296≤r+vn1
     ·have hb3:q - 1=Q2:=by
       obtain ⟨o1,o2⟩:=step_over (d:=d0) hv3 hu2.out hE2 hover
       have o3:=step_fits (d:=d0) hu2.out hE2 o2
       rw [← hQ2.out] at o3
       have:=hbig
       omega
      have HB3:=Hd hb3
      have f4:(4294967296:Int)≤(r:Int)+(vn1:Int):=by omega
      clear hb3 hE2 hover hbig;clear hA hqb hrb hd1 hd0 hv1 hv2 hv3;go_wp2_with fail
      go_meet
      exact ⟨ret_u (by have:=HB3.out;omega),rfl⟩
     ·have HE2:=Hd hE2
      have hbig2:=Hd hbig;have hrb2:=Hd (show r+vn1 < 4294967296∧q - 1≤4294967297∧1≤q by omega)
      have f4:decide ((4294967296:Int)≤(r:Int)+(vn1:Int))=false:=by rw [decide_eq_false_iff_not];omega
      clear hE2 hover hbig;clear hA hqb hrb hd1 hd0 hv1 hv2 hv3;go_wp2_with fail
      go_roundg (q - 1)
      case measure=>have:=hg.out;have:=hrb2.out;omega
      case rel=>exact ⟨q - 1,r+vn1,ret_u (by have:=hrb2.out;omega),ret_u (by omega),Hd rfl,HE2,Hd (by have:=hbig2.out;omega),Hd ⟨hrb2.out.2.1,hrb2.out.1⟩,rfl⟩
    ·have hbig:Q2 < q:=by
      have:=step_big hu2.out hd0 he.out (.inr hP)
      rwa [← hQ2.out] at this
     have hE2:u2=(q - 1)*vn1+(r+vn1):=by
      have h:=he.out
      obtain ⟨m,rfl⟩:∃ m,q=m+1:=⟨q - 1,by omega⟩
      rw [Nat.add_mul] at h
      simp only [Nat.add_sub_cancel]
      omega
     have hz:q*vn0≤4294967295*4294967295:=Nat.mul_le_mul (by omega) (by omega)
     have p1:(q:Int)*(vn0:Int)=((q*vn0:Nat):Int):=by simp
     generalize q*vn0=z at *
     have p2:IntKind.u64.wrap (z:Int)=(z:Int):=by rw [IntKind.wrap_u64];omega
     have f1:(q:Int) < 4294967296:=by omega
     have f1b:(1:Int)≤(q:Int):=by omega
     have f3:(r:Int) < 4294967296:=by omega
     have f5:(vn1:Int) < 4294967296:=by omega
     have f6:4294967296*(r:Int)+(d0:Int) < (z:Int):=by omega
     have f7:(d0:Int) < 4294967296:=by omega
     by_cases hover:4294967296≤r+vn1
     ·have hb3:q - 1=Q2:=by
       obtain ⟨o1,o2⟩:=step_over (d:=d0) hv3 hu2.out hE2 hover
       have o3:=step_fits (d:=d0) hu2.out hE2 o2
       rw [← hQ2.out] at o3
       have:=hbig
       omega
      have HB3:=Hd hb3
      have f4:(4294967296:Int)≤(r:Int)+(vn1:Int):=by omega
      clear hb3 hE2 hover hbig;clear hA hP hqb hrb hz hd1 hd0 hv1 hv2 hv3;go_wp2_with fail
      go_meet
      exact ⟨ret_u (by have:=HB3.out;omega),rfl⟩
     ·have HE2:=Hd hE2
      have hbig2:=Hd hbig;have hrb2:=Hd (show r+vn1 < 4294967296∧q - 1≤4294967297∧1≤q by omega)
      have f4:decide ((4294967296:Int)≤(r:Int)+(vn1:Int))=false:=by rw [decide_eq_false_iff_not];omega
      clear hE2 hover hbig;clear hA hP hqb hrb hz hd1 hd0 hv1 hv2 hv3;go_wp2_with fail
      go_roundg (q - 1)
      case measure=>have:=hg.out;have:=hrb2.out;omega
      case rel=>exact ⟨q - 1,r+vn1,ret_u (by have:=hrb2.out;omega),ret_u (by omega),Hd rfl,HE2,Hd (by have:=hbig2.out;omega),Hd ⟨hrb2.out.2.1,hrb2.out.1⟩,rfl⟩
    ·have hsm:q=Q2:=by
      have:=step_fits hu2.out he.out hP
      rw [← hQ2.out] at this
      have:=hq.out
      omega
     have HS:=Hd hsm;clear hsm
     have hz:q*vn0≤4294967295*4294967295:=Nat.mul_le_mul (by omega) (by omega)
     have p1:(q:Int)*(vn0:Int)=((q*vn0:Nat):Int):=by simp
     generalize q*vn0=z at *
     have p2:IntKind.u64.wrap (z:Int)=(z:Int):=by rw [IntKind.wrap_u64];omega
     have f1:decide ((4294967296:Int)≤(q:Int))=false:=by rw [decide_eq_false_iff_not];omega
     have f3:(r:Int) < 4294967296:=by omega
     have f6:decide (4294967296*(r:Int)+(d0:Int) < (z:Int))=false:=by rw [decide_eq_false_iff_not];omega
     have f7:(d0:Int) < 4294967296:=by omega
     clear hA hP hqb hrb hz hd1 hd0 hv1 hv2 hv3;go_wp2_with fail
     go_meet
     exact ⟨ret_u (by have:=HS.out;omega),rfl⟩
  case rest =>
   obtain ⟨rfl,rfl⟩:=hcut;clear h2 hl ht hub hvb e10 e11 e12;go_wp2;go_returns
   exact ⟨⟨_,rfl⟩,rfl⟩
end Go.Proofs.YtiocbpabbjgkhaaGreatDoor.NumB
namespace Go.Proofs.YtiocbpabbjgkhaaGreatDoor.NumC
open Go.RowKit Go.Proofs.YtiocbpabbjgkhaaGreatDoor.NumA Go.Proofs.YtiocbpabbjgkhaaGreatDoor.NumB
set_option linter.unusedVariables false
theorem bitLen_zero:Lib.bitLen 0=0:=by decide
theorem bitLen_pow:∀ (n x:Nat),n≤64→x < 2 ^ n→x≠0→2 ^ Lib.bitLen x≤2*x∧x < 2 ^ Lib.bitLen x:=by
 intro n
 induction n with
 | zero=>intro x _ h h0;simp at h;exact absurd h h0
 | succ n ih =>
  intro x hn h h0
  have h64:x < 2 ^ 64:=Nat.lt_of_lt_of_le h (Nat.pow_le_pow_right (by omega) hn)
  have e:=Lib.bitLen_half x h0 h64
  by_cases h1:x / 2=0
  ·rw [e,h1,bitLen_zero]
   simp
   omega
  ·have h2:x / 2 < 2 ^ n:=by rw [Nat.pow_succ] at h;omega
   obtain ⟨a,b⟩:=ih (x / 2) (by omega) h2 h1
   rw [e,Nat.pow_add];generalize 2 ^ Lib.bitLen (x / 2)=z at *
   simp only [Nat.pow_one]
   omega
theorem wrap_nat {n:Nat} (h:n < 18446744073709551616):IntKind.u64.wrap (n:Int)=(n:Int):=by rw [IntKind.wrap_u64];omega
theorem norm_ok (y:Nat) (hy:2≤y) (h2:y < 9223372036854775808):∃ s:Nat,(64 - (Lib.bitLen y:Int)=s)∧1≤s∧s≤63∧9223372036854775808≤y*2 ^ s∧y*2 ^ s < 18446744073709551616:=by
 obtain ⟨a,b⟩:=bitLen_pow 63 y (by omega) h2 (by omega)
 have hl:Lib.bitLen y≤63:=Lib.bitLen_le y 63 (by omega) h2
 have hl1:1≤Lib.bitLen y:=by
  rcases Nat.eq_zero_or_pos (Lib.bitLen y) with h | h
  ·rw [h] at b;simp at b;omega
  ·exact h
 refine ⟨64 - Lib.bitLen y,by omega,by omega,by omega,?_,?_⟩
 ·have h:2 ^ Lib.bitLen y*2 ^ (64 - Lib.bitLen y)≤2*y*2 ^ (64 - Lib.bitLen y):=Nat.mul_le_mul_right _ a
  rw [← Nat.pow_add,show Lib.bitLen y+(64 - Lib.bitLen y)=64 from by omega,Nat.mul_assoc] at h;generalize y*2 ^ (64 - Lib.bitLen y)=z at *
  have e:(2:Nat) ^ 64=18446744073709551616:=by decide
  omega
 ·have h:y*2 ^ (64 - Lib.bitLen y) < 2 ^ Lib.bitLen y*2 ^ (64 - Lib.bitLen y):=Nat.mul_lt_mul_of_pos_right b (Nat.two_pow_pos _)
  rw [← Nat.pow_add,show Lib.bitLen y+(64 - Lib.bitLen y)=64 from by omega] at h
  have e:(2:Nat) ^ 64=18446744073709551616:=by decide
  omega
theorem shift_ok (hi lo s:Nat) (hs1:1≤s) (hs2:s≤63) (hl:lo < 18446744073709551616) :
  lo / 2 ^ (64 - s) < 2 ^ s∧(hi*2 ^ s+lo / 2 ^ (64 - s))*18446744073709551616+lo*2 ^ s % 18446744073709551616=(hi*18446744073709551616+lo)*2 ^ s:=by
 have e:(2:Nat) ^ (64 - s)*2 ^ s=18446744073709551616:=by
  rw [← Nat.pow_add,show 64 - s+s=64 from by omega]
 refine ⟨?_,?_⟩
 ·rw [Nat.div_lt_iff_lt_mul (Nat.two_pow_pos _),Nat.mul_comm,e]
  exact hl
 ·have hd:=Nat.div_add_mod lo (2 ^ (64 - s))
  have hm:=Nat.mod_lt lo (Nat.two_pow_pos (64 - s))
  generalize lo / 2 ^ (64 - s)=a at *;generalize lo % 2 ^ (64 - s)=b at *
  have hb:b*2 ^ s < 18446744073709551616:=by
   rw [← e]
   exact Nat.mul_lt_mul_of_pos_right hm (Nat.two_pow_pos _)
  have h1:lo*2 ^ s=a*18446744073709551616+b*2 ^ s:=by
   rw [← hd,Nat.add_mul,Nat.mul_comm (2 ^ (64 - s)) a,Nat.mul_assoc,e]
  have h2:lo*2 ^ s % 18446744073709551616=b*2 ^ s:=by
   rw [h1,Nat.add_comm,Nat.add_mul_mod_self_right,Nat.mod_eq_of_lt hb]
  rw [h2,Nat.add_mul,Nat.add_mul,h1,Nat.mul_assoc,Nat.mul_comm (2 ^ s),← Nat.mul_assoc];generalize hi*18446744073709551616*2 ^ s=x;generalize b*2 ^ s=y;generalize a*18446744073709551616=z
  exact Nat.add_assoc _ _ _
theorem maskB (a:Nat) (ha:a < 18446744073709551616):bits .and .u64 (a:Int) 4294967295=((a % 4294967296:Nat):Int):=by
 have h:=bits_and_u64_nat a 4294967295 ha (by omega)
 have e:a &&& 4294967295=a % 4294967296:=Nat.and_two_pow_sub_one_eq_mod a 32
 rw [e] at h
 exact h
theorem orB (hi s z:Nat) (hz:z < 2 ^ s) (hh:hi*2 ^ s < 18446744073709551616) (hz2:z < 18446744073709551616):bits .or .u64 ((hi*2 ^ s:Nat):Int) (z:Int)=((hi*2 ^ s+z:Nat):Int):=by
 rw [bits_or_u64_nat _ _ hh hz2]
 congr 1
 rw [Nat.mul_comm]
 exact (Nat.two_pow_add_eq_or_of_lt hz hi).symm
set_option maxRecDepth 100000 in
theorem div_high (hi lo y:Nat) (h0:0 < hi) (h1:hi < y) (h2:y < 9223372036854775808) (hl:lo < 18446744073709551616) (w:World) :
  Calls Tryz.prog 174 #[.int .u64 hi,.int .u64 lo,.int .u64 y] w (DivPost ((hi*18446744073709551616+lo) / y) w):=by
 obtain ⟨s,hs,hs1,hs2,hv1,hv2⟩:=norm_ok y (by omega) h2
 obtain ⟨hz,hU⟩:=shift_ok hi lo s hs1 hs2 hl
 have hP:0 < 2 ^ s:=Nat.two_pow_pos s
 have hyv:(hi+1)*2 ^ s≤y*2 ^ s:=Nat.mul_le_mul_right _ h1
 rw [Nat.add_mul,Nat.one_mul] at hyv
 have hZ:(hi*18446744073709551616+lo) / y=((hi*18446744073709551616+lo)*2 ^ s) / (y*2 ^ s):=(Nat.mul_div_mul_right _ _ hP).symm
 rw [hZ,← hU]
 have e1:IntKind.u64.wrap ((y:Int)*2 ^ s)=((y*2 ^ s:Nat):Int):=by
  have:=wrap_nat hv2
  rw [Int.natCast_mul,Int.natCast_pow] at this;rw [Int.natCast_mul,Int.natCast_pow]
  exact this
 have hhs:hi*2 ^ s < 18446744073709551616:=by omega
 have hzb:lo / 2 ^ (64 - s) < 18446744073709551616:=Nat.lt_of_le_of_lt (Nat.div_le_self _ _) hl
 have e4:bits .or .u64 (IntKind.u64.wrap ((hi:Int)*2 ^ s)) ((lo:Int) / 2 ^ (64 - s))=((hi*2 ^ s+lo / 2 ^ (64 - s):Nat):Int):=by
  have a:=wrap_nat hhs
  rw [Int.natCast_mul,Int.natCast_pow] at a
  have b:((lo:Int) / 2 ^ (64 - s))=((lo / 2 ^ (64 - s):Nat):Int):=by rw [Int.natCast_ediv,Int.natCast_pow];rfl
  have c:=orB hi s (lo / 2 ^ (64 - s)) hz hhs hzb
  rw [Int.natCast_mul,Int.natCast_pow] at c;rw [b,← c]
  congr 1
 have e5:IntKind.u64.wrap ((lo:Int)*2 ^ s)=((lo*2 ^ s % 18446744073709551616:Nat):Int):=by
  have e:((lo:Int)*2 ^ s)=((lo*2 ^ s:Nat):Int):=by rw [Int.natCast_mul,Int.natCast_pow];rfl
  rw [e,IntKind.wrap_u64];generalize lo*2 ^ s=x
  omega
 have ht:lo*2 ^ s % 18446744073709551616 < 18446744073709551616:=Nat.mod_lt _ (by omega)
 have hu:hi*2 ^ s+lo / 2 ^ (64 - s) < y*2 ^ s:=by omega
 generalize hi*2 ^ s+lo / 2 ^ (64 - s)=u at *;generalize lo*2 ^ s % 18446744073709551616=t at *;generalize y*2 ^ s=v at *;clear hZ hU hz hyv hP hhs hzb
 have hvs:v / 4294967296*4294967296+v % 4294967296=v:=Nat.div_add_mod' v 4294967296
 have hts:t / 4294967296*4294967296+t % 4294967296=t:=Nat.div_add_mod' t 4294967296
 have hvn1:2147483648≤v / 4294967296:=by omega
 have hvn2:v / 4294967296 < 4294967296:=by omega
 have hvn0:v % 4294967296 < 4294967296:=Nat.mod_lt _ (by omega)
 have hd1:t / 4294967296 < 4294967296:=by omega
 have hd0:t % 4294967296 < 4294967296:=Nat.mod_lt _ (by omega)
 have e2:(v:Int) / 4294967296=((v / 4294967296:Nat):Int):=by omega
 have e3:=maskB v hv2
 have e6:(t:Int) / 4294967296=((t / 4294967296:Nat):Int):=by omega
 have e7:=maskB t ht
 have hZt:(u*18446744073709551616+t)=(u*4294967296+t / 4294967296)*4294967296+t % 4294967296:=by
  rw [Nat.add_mul,Nat.add_assoc,hts,Nat.mul_assoc]
 rw [hZt];generalize t / 4294967296=d1 at *;generalize t % 4294967296=d0 at *;generalize v / 4294967296=vn1 at *;generalize v % 4294967296=vn0 at *
 have hub:u < 18446744073709551616:=by omega
 have hu':u < vn1*4294967296+vn0:=by omega
 have hvp:0 < vn1*4294967296+vn0:=by omega
 obtain ⟨Q1,hq⟩:∃ Q1,(u*4294967296+d1) / v=Q1:=⟨_,rfl⟩
 obtain ⟨u2,hu2⟩:∃ u2,u*4294967296+d1 - Q1*v=u2:=⟨_,rfl⟩
 obtain ⟨s1,s2⟩:=two_steps (B:=4294967296) (v:=v) (u:=u) (a:=d1) (b:=d0) (q1:=Q1) (r1:=u2) (by omega) hq.symm hu2.symm
 rw [← s2]
 have hle:Q1*v≤u*4294967296+d1:=by rw [← hq];exact Nat.div_mul_le_self _ _
 have hQ1b:Q1 < 4294967296:=by
  rw [← hq,Nat.div_lt_iff_lt_mul (by omega)]
  have:(u+1)*4294967296≤v*4294967296:=Nat.mul_le_mul_right _ hu
  rw [Nat.mul_comm 4294967296]
  omega
 have hQ1:Q1=(u*4294967296+d1) / (vn1*4294967296+vn0):=by rw [hvs,hq]
 have g1:=step_guess (d:=d1) (by omega) hu' hd1
 rw [← hQ1] at g1
 have g2:=step_start (B:=4294967296) hvn0 (by omega) hu'
 have g3:=Nat.div_add_mod' u vn1
 have g4:=Nat.mod_lt u (show 0 < vn1 by omega)
 have e8:IntKind.u64.wrap ((u:Int) / (vn1:Int))=((u / vn1:Nat):Int):=by
  rw [← Int.natCast_ediv]
  exact wrap_nat (Nat.lt_of_le_of_lt (Nat.div_le_self _ _) hub)
 have e9:IntKind.u64.wrap ((u:Int) - IntKind.u64.wrap (((u / vn1:Nat):Int)*(vn1:Int)))=((u % vn1:Nat):Int):=by
  rw [← Int.natCast_mul];generalize u / vn1*vn1=x at *;rw [wrap_nat (by omega),IntKind.wrap_u64];generalize u % vn1=z at *
  omega
 have e10:IntKind.u64.wrap (IntKind.u64.wrap (IntKind.u64.wrap ((u:Int)*4294967296)+(d1:Int)) - IntKind.u64.wrap ((Q1:Int)*(v:Int)))=(u2:Int):=by
  rw [← Int.natCast_mul];generalize Q1*v=x at *
  simp only [IntKind.wrap_u64]
  omega
 have hu2':u2 < vn1*4294967296+vn0:=by omega
 have hu2b:u2 < 18446744073709551616:=by omega
 have k1:=step_guess (d:=d0) (by omega) hu2' hd0
 have k2:=step_start (B:=4294967296) hvn0 (by omega) hu2'
 have k3:=Nat.div_add_mod' u2 vn1
 have k4:=Nat.mod_lt u2 (show 0 < vn1 by omega)
 have e11:IntKind.u64.wrap ((u2:Int) / (vn1:Int))=((u2 / vn1:Nat):Int):=by
  rw [← Int.natCast_ediv]
  exact wrap_nat (Nat.lt_of_le_of_lt (Nat.div_le_self _ _) hu2b)
 have e12:IntKind.u64.wrap ((u2:Int) - IntKind.u64.wrap (((u2 / vn1:Nat):Int)*(vn1:Int)))=((u2 % vn1:Nat):Int):=by
  rw [← Int.natCast_mul];generalize u2 / vn1*vn1=x at *;rw [wrap_nat (by omega),IntKind.wrap_u64];generalize u2 % vn1=z at *
  omega
 obtain ⟨Q2,hq2⟩:∃ Q2,(u2*4294967296+d0) / v=Q2:=⟨_,rfl⟩
 have hQ2:Q2=(u2*4294967296+d0) / (vn1*4294967296+vn0):=by rw [hvs,hq2]
 have hQ2b:Q2 < 4294967296:=by
  rw [← hq2,Nat.div_lt_iff_lt_mul (by omega)]
  have:(u2+1)*4294967296≤v*4294967296:=Nat.mul_le_mul_right _ s1
  rw [Nat.mul_comm 4294967296]
  omega
 rw [← hQ2] at k1;rw [hq2]
 have e13:IntKind.u64.wrap ((Q1:Int)*4294967296+(Q2:Int))=((Q1*4294967296+Q2:Nat):Int):=by
  rw [IntKind.wrap_u64]
  omega
 exact div_core hi lo y s v vn1 vn0 u t d1 d0 (u / vn1) (u % vn1) Q1 u2 (u2 / vn1) (u2 % vn1) Q2 h0 h1 h2 hl (Hd hs) hs1 hs2 e1 hv2 e2 hvn1 hvn2 e3 hvn0 e4 (Hd hu') hub e5 ht e6 hd1 e7 hd0 e8 e9
  (Hd g3.symm) (Hd g1) g2 (by omega) (Hd hQ1) hQ1b e10 (Hd hu2') e11 e12 (Hd k3.symm) (Hd k1) k2 (by omega) (Hd hQ2) _ e13 w
end Go.Proofs.YtiocbpabbjgkhaaGreatDoor.NumC
namespace Go.Proofs.YtiocbpabbjgkhaaGreatDoor.NumD
open Go.RowKit Go.Proofs.YtiocbpabbjgkhaaGreatDoor.NumB Go.Proofs.YtiocbpabbjgkhaaGreatDoor.NumC
set_option linter.unusedVariables false
def In64 (a:Int):Prop:=-9223372036854775808≤a∧a≤9223372036854775807
def sumF (n:Int):Int × Int:=if -9223372036854775808≤n∧n≤9223372036854775807 then (n,0) else (0,16)
theorem add_over {a b:Int} (ha:In64 a) (hb:In64 b) (h:(!(decide (wrap64 (a+b) < a) == decide (b < 0)))=true):sumF (a+b)=(0,16):=by
 unfold In64 at ha hb;unfold sumF;rw [if_neg];unfold wrap64 at h
 by_cases c:b < 0 <;> simp [c] at h <;> omega
theorem add_fit {a b:Int} (ha:In64 a) (hb:In64 b) (h:(!(decide (wrap64 (a+b) < a) == decide (b < 0)))=false):sumF (a+b)=(wrap64 (a+b),0):=by
 unfold In64 at ha hb;unfold sumF;unfold wrap64 at h
 have hr:-9223372036854775808≤a+b∧a+b≤9223372036854775807:=by
  by_cases c:b < 0 <;> simp [c] at h <;> omega
 rw [if_pos hr];unfold wrap64;rw [show (a+b+9223372036854775808) % 18446744073709551616 - 9223372036854775808=a+b from by omega]
theorem add_any (a b:Int) (ha:In64 a) (hb:In64 b) (w:World):Calls Tryz.prog 300 #[.int .i64 a,.int .i64 b] w fun e w'=>e=.returned (.tuple #[.int .i64 (sumF (a+b)).1,.int .i64 (sumF (a+b)).2])∧w=w':=by
 have H1:=Hd (add_over ha hb);have H2:=Hd (add_fit ha hb);obtain ⟨a1,a2⟩:=ha;obtain ⟨b1,b2⟩:=hb
 go_enter Tryz.func300,Tryz.ntmps300
 go_wp2
 ·go_returns
  rw [H1.out (by assumption)]
  exact ⟨rfl,rfl⟩
 ·go_returns
  rw [H2.out (by assumption)]
  exact ⟨rfl,rfl⟩
def badLater (now delay:Int):Prop:=now < 0∨1152921504606846976 < now∨delay < 0∨1073741824 < delay
instance (now delay:Int):Decidable (badLater now delay):=inferInstanceAs (Decidable (_∨_∨_∨_))
def laterF (now delay:Int):Int × Int:=if badLater now delay then (0,2) else if 1152921504606846976 < now+delay then (0,16) else (now+delay,0)
theorem later_cases (now delay:Int):(now < 0∧laterF now delay=(0,2))∨(0≤now∧1152921504606846976 < now∧laterF now delay=(0,2))∨(0≤now∧now≤1152921504606846976∧delay < 0∧laterF now delay=(0,2))∨(0≤now∧now≤1152921504606846976∧0≤delay∧1073741824 < delay∧laterF now delay=(0,2)) ∨
  (0≤now∧now≤1152921504606846976∧0≤delay∧delay≤1073741824∧1152921504606846976 < now+delay∧laterF now delay=(0,16))∨(0≤now∧now≤1152921504606846976∧0≤delay∧delay≤1073741824∧now+delay≤1152921504606846976∧laterF now delay=(now+delay,0)):=by
 unfold laterF
 by_cases h1:now < 0
 ·left;exact ⟨h1,by rw [if_pos (show badLater now delay by unfold badLater;omega)]⟩
 ·by_cases h2:1152921504606846976 < now
  ·right;left;exact ⟨by omega,h2,by rw [if_pos (show badLater now delay by unfold badLater;omega)]⟩
  ·by_cases h3:delay < 0
   ·right;right;left;exact ⟨by omega,by omega,h3,by rw [if_pos (show badLater now delay by unfold badLater;omega)]⟩
   ·by_cases h4:1073741824 < delay
    ·right;right;right;left;exact ⟨by omega,by omega,by omega,h4,by rw [if_pos (show badLater now delay by unfold badLater;omega)]⟩
    ·by_cases h5:1152921504606846976 < now+delay
     ·right;right;right;right;left;exact ⟨by omega,by omega,by omega,by omega,h5,by rw [if_neg (show ¬ badLater now delay by unfold badLater;omega),if_pos h5]⟩
     ·right;right;right;right;right;exact ⟨by omega,by omega,by omega,by omega,by omega,by rw [if_neg (show ¬ badLater now delay by unfold badLater;omega),if_neg h5]⟩
theorem later_any (now delay:Int) (w:World) (h1:In64 now) (h2:In64 delay):Calls Tryz.prog 126 #[.int .i64 now,.int .i64 delay] w fun e w'=>e=.returned (.tuple #[.int .i64 (laterF now delay).1,.int .i64 (laterF now delay).2])∧w=w':=by
 clear h1 h2
 rcases later_cases now delay with ⟨a,e⟩ | ⟨a,b,e⟩ | ⟨a,b,c,e⟩ | ⟨a,b,c,d,e⟩ | ⟨a,b,c,d,f,e⟩ | ⟨a,b,c,d,f,e⟩
 all_goals
  have E:=Hd e;clear e
  first
  | (have d9:decide (now≤1152921504606846976 - delay)=true:=by (rw [decide_eq_true_iff];omega))
  | (have d9:decide (now≤1152921504606846976 - delay)=false:=by (rw [decide_eq_false_iff_not];omega))
  | skip
  first
  | (have d8:decide (delay≤1073741824)=true:=by (rw [decide_eq_true_iff];omega))
  | (have d8:decide (delay≤1073741824)=false:=by (rw [decide_eq_false_iff_not];omega))
  | skip
  go_enter Tryz.func126,Tryz.ntmps126
  go_wp2;go_returns;rw [E.out]
  exact ⟨rfl,rfl⟩
end Go.Proofs.YtiocbpabbjgkhaaGreatDoor.NumD
namespace Go.Proofs.YtiocbpabbjgkhaaGreatDoor.NumE
open Go.RowKit Go.Proofs.YtiocbpabbjgkhaaGreatDoor.NumB Go.Proofs.YtiocbpabbjgkhaaGreatDoor.NumC Go.Proofs.YtiocbpabbjgkhaaGreatDoor.NumD
set_option linter.unusedVariables false
def DivAny (Z:Nat) (w:World) (e:Ending) (w':World):Prop:=(∃ r:Int,e=.returned (.tuple #[.int .u64 (Z:Int),.int .u64 r]))∧∃ n,w'=w.drewN n
theorem div_any (hi lo y:Nat) (h1:hi < y) (h2:y < 9223372036854775808) (hl:lo < 18446744073709551616) (w:World) :
  Calls Tryz.prog 174 #[.int .u64 hi,.int .u64 lo,.int .u64 y] w (DivAny ((hi*18446744073709551616+lo) / y) w):=by
 rcases Nat.eq_zero_or_pos hi with rfl | h0
 ·rw [Nat.zero_mul,Nat.zero_add]
  exact (div_low lo y (by omega) hl (by omega) w).mono fun e w' ⟨he,hw⟩=>⟨⟨_,he⟩,hw⟩
 ·exact (div_high hi lo y h0 h1 h2 hl w).mono fun e w' ⟨he,hw⟩=>⟨he,0,hw⟩
theorem mul_any (x y:Nat) (hx:x < 18446744073709551616) (hy:y < 18446744073709551616) (w:World) :
  Calls Tryz.prog 173 #[.int .u64 x,.int .u64 y] w fun e w'=>e=.returned (.tuple #[.int .u64 ((x*y / 18446744073709551616:Nat):Int),.int .u64 ((x*y % 18446744073709551616:Nat):Int)])∧w=w' :=
 (Tryz.bits_Mul64 x y hx hy w).mono fun _ _ h=>⟨h.1,h.2.symm⟩
theorem mul_100 (x:Nat) (hx:x < 18446744073709551616) (w:World) :
  Calls Tryz.prog 173 #[.int .u64 x,.int .u64 100] w fun e w'=>e=.returned (.tuple #[.int .u64 ((x*100 / 18446744073709551616:Nat):Int),.int .u64 ((x*100 % 18446744073709551616:Nat):Int)])∧w=w':=mul_any x 100 hx (by omega) w
theorem div_100 (hi lo:Nat) (h1:hi < 100) (hl:lo < 18446744073709551616) (w:World) :
  Calls Tryz.prog 174 #[.int .u64 hi,.int .u64 lo,.int .u64 100] w (DivAny ((hi*18446744073709551616+lo) / 100) w):=div_any hi lo 100 h1 (by omega) hl w
def percentF (part of:Int):Int:=if part < 1∨of < 1 then 0 else if of≤part then 100 else ((part.toNat*100 / of.toNat:Nat):Int)
def Pct (p:Int) (w:World) (e:Ending) (w':World):Prop:=e=.returned (.int .i64 p)∧∃ n,w'=w.drewN n
set_option maxHeartbeats 1000000 in
theorem percent_in (p q:Nat) (h1:1≤p) (h2:p < q) (h3:q < 9223372036854775808) (w:World):Calls Tryz.prog 175 #[.int .i64 p,.int .i64 q] w (Pct ((p*100 / q:Nat):Int) w):=by
 have hlt:p*100 / q < 100:=by
  rw [Nat.div_lt_iff_lt_mul (by omega)]
  omega
 have hb:¬ ((p:Int) < 1):=by omega
 have hc:¬ ((q:Int) < 1):=by omega
 have hd:¬ ((q:Int)≤(p:Int)):=by omega
 have hhi:p*100 / 18446744073709551616 < q:=by
  rw [Nat.div_lt_iff_lt_mul (by omega)]
  omega
 have hlo:p*100 % 18446744073709551616 < 18446744073709551616:=Nat.mod_lt _ (by omega)
 have hZ:p*100 / 18446744073709551616*18446744073709551616+p*100 % 18446744073709551616=p*100:=Nat.div_add_mod' _ _
 go_enter Tryz.func175,Tryz.ntmps175
 go_wp2_with fail
 refine (mul_100 p (by omega) _).mono ?_
 rintro e w1 ⟨rfl,rfl⟩;generalize p*100 / 18446744073709551616=hi at *;generalize p*100 % 18446744073709551616=lo at *;have HZ:=Hd hZ;clear hZ;go_wp2_with fail;refine (div_any hi lo q hhi h3 hlo _).mono ?_;rintro e w1 ⟨⟨r,rfl⟩,n,hn⟩;rw [hn,HZ.out];clear hn HZ;generalize p*100 / q=z at *;go_wp2;go_returns
 exact ⟨rfl,_,rfl⟩
theorem percent_any (p q:Int) (hp:In64 p) (hq:In64 q) (w:World):Calls Tryz.prog 175 #[.int .i64 p,.int .i64 q] w (Pct (percentF p q) w):=by
 obtain ⟨p1,p2⟩:=hp;obtain ⟨q1,q2⟩:=hq
 have hcase:p < 1∨(1≤p∧q < 1)∨(1≤p∧1≤q∧q≤p)∨(1≤p∧p < q):=by omega
 rcases hcase with a | ⟨a,b⟩ | ⟨a,b,c⟩ | ⟨a,b⟩
 ·have e:percentF p q=0:=by unfold percentF;rw [if_pos (by omega)]
  rw [e]
  go_enter Tryz.func175,Tryz.ntmps175
  go_wp2;go_returns
  exact ⟨rfl,0,rfl⟩
 ·have e:percentF p q=0:=by unfold percentF;rw [if_pos (by omega)]
  rw [e]
  go_enter Tryz.func175,Tryz.ntmps175
  go_wp2;go_returns
  exact ⟨rfl,0,rfl⟩
 ·have e:percentF p q=100:=by unfold percentF;rw [if_neg (by omega),if_pos c]
  rw [e]
  go_enter Tryz.func175,Tryz.ntmps175
  go_wp2;go_returns
  exact ⟨rfl,0,rfl⟩
 ·have e:percentF p q=((p.toNat*100 / q.toNat:Nat):Int):=by unfold percentF;rw [if_neg (by omega),if_neg (by omega)]
  rw [e]
  obtain ⟨p,rfl⟩:=Int.eq_ofNat_of_zero_le (show 0≤p by omega)
  obtain ⟨q,rfl⟩:=Int.eq_ofNat_of_zero_le (show 0≤q by omega)
  exact percent_in p q (by omega) (by omega) (by omega) w
def scaleF (low high p:Int):Int:=if high < low∨p < 1 then low else if 100≤p then high else low+(((high - low).toNat*p.toNat / 100:Nat):Int)
theorem wrap_u (a:Int):IntKind.u64.wrap a=a % 18446744073709551616:=IntKind.wrap_u64 a
set_option maxHeartbeats 1000000 in
theorem scale_in (low high:Int) (d p:Nat) (hl:In64 low) (hh:In64 high) (hd:high - low=d) (h1:1≤p) (h2:p < 100) (w:World):Calls Tryz.prog 90 #[.int .i64 low,.int .i64 high,.int .i64 p] w (Pct (low+((d*p / 100:Nat):Int)) w):=by
 obtain ⟨l1,l2⟩:=hl;obtain ⟨g1,g2⟩:=hh
 have hdb:d < 18446744073709551616:=by omega
 have hb:¬ (high < low):=by omega
 have hc:¬ ((p:Int) < 1):=by omega
 have hq:¬ (100≤(p:Int)):=by omega
 have hdp:d*p≤d*99:=Nat.mul_le_mul_left _ (by omega)
 have hhi:d*p / 18446744073709551616 < 100:=by
  rw [Nat.div_lt_iff_lt_mul (by omega)]
  omega
 have hlo:d*p % 18446744073709551616 < 18446744073709551616:=Nat.mod_lt _ (by omega)
 have hZ:d*p / 18446744073709551616*18446744073709551616+d*p % 18446744073709551616=d*p:=Nat.div_add_mod' _ _
 have hzd:d*p / 100≤d:=by
  have:d*p / 100 < d+1:=by
   rw [Nat.div_lt_iff_lt_mul (by omega)]
   omega
  omega
 have e1:IntKind.u64.wrap (IntKind.u64.wrap high - IntKind.u64.wrap low)=(d:Int):=by
  simp only [wrap_u]
  omega
 have e2:wrap64 (IntKind.u64.wrap (IntKind.u64.wrap low+((d*p / 100:Nat):Int)))=low+((d*p / 100:Nat):Int):=by
  generalize d*p / 100=z at *
  simp only [wrap_u,wrap64]
  omega
 have HZ:=Hd hZ;have H2:=Hd e2;clear hZ e2 hd hdp
 go_enter Tryz.func90,Tryz.ntmps90
 go_wp2_with fail
 refine (mul_any d p hdb (by omega) _).mono ?_
 rintro e w1 ⟨rfl,rfl⟩;generalize d*p / 18446744073709551616=hi at *;generalize d*p % 18446744073709551616=lo at *;clear e1 hdb;go_wp2_with fail;refine (div_100 hi lo hhi hlo _).mono ?_;rintro e w1 ⟨⟨r,rfl⟩,n,hn⟩;rw [hn,HZ.out];clear hn HZ hhi hlo;generalize d*p / 100=z at *;clear l1 l2 g1 g2 hzd;go_wp2;go_returns
 refine ⟨?_,_,rfl⟩
 rw [← H2.out]
 rfl
theorem scale_any (low high p:Int) (hl:In64 low) (hh:In64 high) (hp:In64 p) (w:World):Calls Tryz.prog 90 #[.int .i64 low,.int .i64 high,.int .i64 p] w (Pct (scaleF low high p) w):=by
 have hcase:high < low∨(low≤high∧p < 1)∨(low≤high∧1≤p∧100≤p)∨(low≤high∧1≤p∧p < 100):=by omega
 rcases hcase with a | ⟨a,b⟩ | ⟨a,b,c⟩ | ⟨a,b,c⟩
 ·have e:scaleF low high p=low:=by unfold scaleF;rw [if_pos (by omega)]
  rw [e];clear e hl hh hp
  go_enter Tryz.func90,Tryz.ntmps90
  go_wp2;go_returns
  exact ⟨rfl,0,rfl⟩
 ·have e:scaleF low high p=low:=by unfold scaleF;rw [if_pos (by omega)]
  rw [e];clear e hl hh hp
  go_enter Tryz.func90,Tryz.ntmps90
  go_wp2;go_returns
  exact ⟨rfl,0,rfl⟩
 ·have e:scaleF low high p=high:=by unfold scaleF;rw [if_neg (by omega),if_pos c]
  rw [e];clear e hl hh hp
  go_enter Tryz.func90,Tryz.ntmps90
  go_wp2;go_returns
  exact ⟨rfl,0,rfl⟩
 ·have e:scaleF low high p=low+(((high - low).toNat*p.toNat / 100:Nat):Int):=by unfold scaleF;rw [if_neg (by omega),if_neg (by omega)]
  rw [e]
  obtain ⟨p,rfl⟩:=Int.eq_ofNat_of_zero_le (show 0≤p by omega)
  exact scale_in low high (high - low).toNat p hl hh (by omega) (by omega) (by omega) w
end Go.Proofs.YtiocbpabbjgkhaaGreatDoor.NumE
namespace Go.Proofs.YtiocbpabbjgkhaaGreatDoor
open Go.RowKit Go.Proofs.Tryz
variable {w w' : World} {F : Nat → Prop} {p : Nat}
def top64:Nat:=18446744073709551616
def oneF (cpu:Int):Nat:=if 0≤cpu∧cpu < 64 then 2 ^ cpu.toNat else 0
theorem oneF_in (c:Nat) (h:c < 64):oneF (c:Int)=2 ^ c:=by unfold oneF;rw [if_pos (by omega),Int.toNat_natCast]
theorem pow_lt64 {c:Nat} (h:c < 64):2 ^ c < top64:=Nat.pow_lt_pow_right (by omega) h
theorem oneF_lt (cpu:Int):oneF cpu < top64:=by
 unfold oneF
 split
 ·exact pow_lt64 (by omega)
 ·decide
theorem shl64 (c:Nat) (h:c < 64):(2:Int) ^ c % 18446744073709551616=((2 ^ c:Nat):Int):=by
 have:=pow_lt64 h
 unfold top64 at this
 have e:(2:Int) ^ c=((2 ^ c:Nat):Int):=by simp
 rw [e];generalize 2 ^ c=p at *
 omega
theorem wrap_pow (c:Nat) (h:c < 64):IntKind.u64.wrap ((2:Int) ^ c)=((2 ^ c:Nat):Int):=by rw [IntKind.wrap_u64];exact shl64 c h
theorem one_any (cpu:Int) (w:World):Calls prog 92 #[.int .i64 cpu] w fun e w'=>e=.returned (.int .u64 (oneF cpu))∧w=w':=by
 rcases (by omega:cpu < 0∨(0≤cpu∧64≤cpu)∨(0≤cpu∧cpu < 64)) with h | ⟨h,h2⟩ | ⟨h,h2⟩
 ·have e:oneF cpu=0:=by unfold oneF;rw [if_neg (by omega)]
  rw [e];clear e
  go_enter func92,ntmps92
  go_wp2;go_returns
  exact ⟨rfl,rfl⟩
 ·have e:oneF cpu=0:=by unfold oneF;rw [if_neg (by omega)]
  rw [e];clear e
  go_enter func92,ntmps92
  go_wp2;go_returns
  exact ⟨rfl,rfl⟩
 ·obtain ⟨c,rfl⟩:∃ c:Nat,cpu=c:=⟨cpu.toNat,by omega⟩
  rw [oneF_in c (by omega)]
  have hs:=wrap_pow c (by omega)
  generalize 2 ^ c=p at *
  go_enter func92,ntmps92
  go_wp2;go_returns
  exact ⟨by rw [← hs];rfl,rfl⟩
def hasF (m:Nat) (cpu:Int):Bool:=decide (m &&& oneF cpu≠0)
theorem and64 (a b:Nat) (ha:a < top64) (hb:b < top64):bits .and .u64 (a:Int) (b:Int)=((a &&& b:Nat):Int):=by
 unfold top64 at ha hb;rw [u64_and _ _ (by omega) (by omega) (by omega) (by omega)]
 simp
theorem or64 (a b:Nat) (ha:a < top64) (hb:b < top64):bits .or .u64 (a:Int) (b:Int)=((a ||| b:Nat):Int):=by
 unfold top64 at ha hb;rw [u64_or _ _ (by omega) (by omega) (by omega) (by omega)]
 simp
theorem has_any (m:Nat) (hm:m < top64) (cpu:Int) (w:World):Calls prog 18 #[.int .u64 m,.int .i64 cpu] w fun e w'=>e=.returned (.bool (hasF m cpu))∧w=w':=by
 have ha:=and64 m (oneF cpu) hm (oneF_lt cpu)
 have O:=Hd (fun w=>one_any cpu w)
 have HF:Hid (hasF m cpu=!((((m &&& oneF cpu:Nat)):Int) == 0)):=Hd (by unfold hasF;rw [Bool.eq_iff_iff];simp)
 generalize oneF cpu=p at *;generalize m &&& p=q at *
 go_enter func18,ntmps18
 go_wp2_with (go_at_call 92;refine (O.out _).mono ?_;rintro e w' ⟨rfl,rfl⟩)
 go_returns
 refine ⟨?_,rfl⟩
 rw [HF.out]
 rfl
def notF (a b:Nat):Nat:=a &&& (top64 - 1 - b)
theorem u64_andNot_nat (a b:Nat) (ha:a < top64) (hb:b < top64):bits .andNot .u64 (a:Int) (b:Int)=((notF a b:Nat):Int):=by
 unfold top64 at ha hb
 show IntKind.u64.wrap ((BitVec.ofInt 64 (a:Int) &&& ~~~ BitVec.ofInt 64 (b:Int)).toNat:Int)=_
 have e1:(BitVec.ofInt 64 (a:Int)).toNat=a:=by rw [BitVec.ofInt_natCast,BitVec.toNat_ofNat];exact Nat.mod_eq_of_lt (by omega)
 have e2:(BitVec.ofInt 64 (b:Int)).toNat=b:=by rw [BitVec.ofInt_natCast,BitVec.toNat_ofNat];exact Nat.mod_eq_of_lt (by omega)
 have e3:notF a b < 2 ^ 64:=Nat.lt_of_le_of_lt Nat.and_le_left (by omega)
 rw [BitVec.toNat_and,BitVec.toNat_not,e1,e2,IntKind.wrap_u64]
 have e4:(2 ^ 64 - 1 - b)=(top64 - 1 - b):=rfl
 rw [e4]
 show ((notF a b:Nat):Int) % _=_
 omega
theorem less_any (m:Nat) (hm:m < top64) (cpu:Int) (w:World):Calls prog 162 #[.int .u64 m,.int .i64 cpu] w fun e w'=>e=.returned (.int .u64 (notF m (oneF cpu)))∧w=w':=by
 have ha:=u64_andNot_nat m (oneF cpu) hm (oneF_lt cpu)
 have O:=Hd (fun w=>one_any cpu w);generalize notF m (oneF cpu)=q at *;generalize oneF cpu=p at *
 go_enter func162,ntmps162
 go_wp2_with (go_at_call 92;refine (O.out _).mono ?_;rintro e w' ⟨rfl,rfl⟩)
 go_returns
 exact ⟨rfl,rfl⟩
theorem not_any (m o:Nat) (hm:m < top64) (ho:o < top64) (w:World):Calls prog 181 #[.int .u64 m,.int .u64 o] w fun e w'=>e=.returned (.int .u64 (notF m o))∧w=w':=by
 have ha:=u64_andNot_nat m o hm ho
 generalize notF m o=q at *
 go_enter func181,ntmps181
 go_wp2;go_returns
 exact ⟨rfl,rfl⟩
theorem and_any (m o:Nat) (hm:m < top64) (ho:o < top64) (w:World):Calls prog 284 #[.int .u64 m,.int .u64 o] w fun e w'=>e=.returned (.int .u64 ((m &&& o:Nat):Int))∧w=w':=by
 have ha:=and64 m o hm ho
 generalize m &&& o=q at *
 go_enter func284,ntmps284
 go_wp2;go_returns
 exact ⟨rfl,rfl⟩
def withinF (m o:Nat):Bool:=decide (notF m o=0)
theorem within_any (m o:Nat) (hm:m < top64) (ho:o < top64) (w:World):Calls prog 283 #[.int .u64 m,.int .u64 o] w fun e w'=>e=.returned (.bool (withinF m o))∧w=w':=by
 have ha:=u64_andNot_nat m o hm ho
 have HF:Hid (withinF m o=(((notF m o:Nat):Int) == 0)):=Hd (by unfold withinF;rw [Bool.eq_iff_iff];simp)
 generalize notF m o=q at *
 go_enter func283,ntmps283
 go_wp2;go_returns
 exact ⟨by rw [HF.out];rfl,rfl⟩
def uptoF (n:Int):Nat:=if n≤0 then 0 else if 64≤n then top64 - 1 else 2 ^ n.toNat - 1
theorem uptoF_lt (n:Int):uptoF n < top64:=by
 unfold uptoF
 split
 ·decide
 ·split
  ·decide
  ·have h1:=pow_lt64 (c:=n.toNat) (by omega)
   have h2:0 < top64:=by decide
   generalize 2 ^ n.toNat=p at *
   omega
theorem upto_any (n:Int) (w:World):Calls prog 48 #[.int .i64 n] w fun e w'=>e=.returned (.int .u64 (uptoF n))∧w=w':=by
 rcases (by omega:n≤0∨(0 < n∧64≤n)∨(0 < n∧n < 64)) with h | ⟨h,h2⟩ | ⟨h,h2⟩
 ·have e:uptoF n=0:=by unfold uptoF;rw [if_pos h]
  rw [e];clear e
  go_enter func48,ntmps48
  go_wp2;go_returns
  exact ⟨rfl,rfl⟩
 ·have e:uptoF n=18446744073709551615:=by unfold uptoF top64;rw [if_neg (by omega),if_pos h2]
  have E:=Hd e;clear e
  go_enter func48,ntmps48
  go_wp2;go_returns
  exact ⟨by rw [E.out];rfl,rfl⟩
 ·obtain ⟨c,rfl⟩:∃ c:Nat,n=c:=⟨n.toNat,by omega⟩
  have e:uptoF c=2 ^ c - 1:=by unfold uptoF;rw [if_neg (by omega),if_neg (by omega),Int.toNat_natCast]
  have hp:=pow_lt64 (c:=c) (by omega)
  have hp0:0 < 2 ^ c:=Nat.pow_pos (by omega)
  have O:=Hd (fun w=>one_any (c:Int) w)
  rw [oneF_in c (by omega)] at O;rw [e];clear e;generalize 2 ^ c=p at *;unfold top64 at hp
  have hs:IntKind.u64.wrap ((p:Int) - 1)=((p - 1:Nat):Int):=by rw [IntKind.wrap_u64];omega
  clear hp hp0
  go_enter func48,ntmps48
  go_wp2_with (go_at_call 92;refine (O.out _).mono ?_;rintro e w' ⟨rfl,rfl⟩)
  go_returns
  exact ⟨by rw [← hs];rfl,rfl⟩
def Tab (w:World):Prop:=TabAt 2 Lib.deBruijn64tab w
theorem tz_any (x:Nat) (hx:x < top64) (w:World) (hT:Tab w):Calls prog 231 #[.int .u64 x] w fun e w'=>e=.returned (.int .i64 (Lib.ctz 64 x))∧w=w' :=
 (Any7.bits_TrailingZeros64 laysTz x hx w (fun _=>hT)).mono fun _ _ h=>⟨h.1,h.2.symm⟩
theorem with_one (m:Nat) (hm:m < top64) (c:Int) (w:World) (b cap:Nat) (hc:w.cell? ⟨b,0,none⟩=some (.int .i64 c)):Calls prog 189 #[.int .u64 m,.slice (some ⟨b,0,none⟩) 1 cap] w fun e w'=>e=.returned (.int .u64 ((m ||| oneF c:Nat):Int))∧w=w':=by
 have ha:=or64 m (oneF c) hm (oneF_lt c)
 have O:=Hd (fun w=>one_any c w);generalize oneF c=p at *;generalize m ||| p=q at *
 go_enter func189,ntmps189
 go_wp2
 refine wp_loop_rounds 2 ?_
 rw [rounds_succ]
 go_wp2_with (go_at_call 92;refine (O.out _).mono ?_;rintro e w' ⟨rfl,rfl⟩)
 rw [rounds_succ];go_wp2;go_returns
 exact ⟨rfl,rfl⟩
def many1 (x:Int):Int:=IntKind.u64.wrap (bits .and .u64 (x / 2) 6148914691236517205+bits .and .u64 x 6148914691236517205)
def many2 (x:Int):Int:=IntKind.u64.wrap (bits .and .u64 (x / 4) 3689348814741910323+bits .and .u64 x 3689348814741910323)
def many3 (x:Int):Int:=bits .and .u64 (IntKind.u64.wrap (x / 16+x)) 1085102592571150095
def many4 (d x:Int):Int:=IntKind.u64.wrap (x+x / d)
def manyF (m:Nat):Int:=bits .and .i64 (wrap64 (many4 4294967296 (many4 65536 (many4 256 (many3 (many2 (many1 m))))))) 127
theorem many_any (m:Nat) (hm:m < top64) (w:World):Calls prog 161 #[.int .u64 m] w fun e w'=>e=.returned (.int .i64 (manyF m))∧w=w':=by
 go_enter func161,ntmps161
 go_wp2_with go_in
 go_returns
 exact ⟨rfl,rfl⟩
def firstF (m:Nat):Int × Int:=if m=0 then (0,12) else (((Lib.ctz 64 m:Nat):Int),0)
theorem first_any (m:Nat) (hm:m < top64) (w:World) (hT:Tab w):Calls prog 163 #[.int .u64 m] w fun e w'=>e=.returned (.tuple #[.int .i64 (firstF m).1,.int .i64 (firstF m).2])∧w=w':=by
 have T:=Hd (tz_any m hm w hT)
 by_cases h:m=0
 ·subst h
  go_enter func163,ntmps163
  go_wp2;go_returns
  exact ⟨rfl,rfl⟩
 ·have e:firstF m=(((Lib.ctz 64 m:Nat):Int),0):=by unfold firstF;rw [if_neg h]
  rw [e]
  have h0:((m:Int) == 0)=false:=by simpa using h
  clear e h
  go_enter func163,ntmps163
  go_wp2_with (go_at_call 231;refine T.out.mono ?_;rintro e w' ⟨rfl,rfl⟩)
  go_returns
  exact ⟨rfl,rfl⟩
def nextF (m:Nat) (c:Int):Int × Int:=if c < 0∨63≤c then firstF m else if notF m (uptoF (c+1))≠0 then firstF (notF m (uptoF (c+1))) else firstF m
theorem notF_lt (a b:Nat) (h:a < top64):notF a b < top64:=Nat.lt_of_le_of_lt Nat.and_le_left h
theorem next_any (m:Nat) (hm:m < top64) (c:Int) (w:World) (hT:Tab w):Calls prog 285 #[.int .u64 m,.int .i64 c] w fun e w'=>e=.returned (.tuple #[.int .i64 (nextF m c).1,.int .i64 (nextF m c).2])∧w=w':=by
 have FM:=Hd (first_any m hm w hT)
 rcases (by omega:c < 0∨(0≤c∧63≤c)∨(0≤c∧c < 63)) with h | ⟨h,h2⟩ | ⟨h,h2⟩
 ·have e:nextF m c=firstF m:=by unfold nextF;rw [if_pos (.inl h)]
  rw [e];clear e;generalize firstF m=r at *
  go_enter func285,ntmps285
  go_wp2_with (go_at_call 163;refine FM.out.mono ?_;rintro e w' ⟨rfl,rfl⟩)
  go_returns
  exact ⟨rfl,rfl⟩
 ·have e:nextF m c=firstF m:=by unfold nextF;rw [if_pos (.inr h2)]
  rw [e];clear e;generalize firstF m=r at *
  go_enter func285,ntmps285
  go_wp2_with (go_at_call 163;refine FM.out.mono ?_;rintro e w' ⟨rfl,rfl⟩)
  go_returns
  exact ⟨rfl,rfl⟩
 ·have hu:=u64_andNot_nat m (uptoF (c+1)) hm (uptoF_lt _)
  have U:=Hd (upto_any (c+1) w)
  have FN:=Hd (first_any (notF m (uptoF (c+1))) (notF_lt _ _ hm) w hT)
  have e:nextF m c=if notF m (uptoF (c+1))≠0 then firstF (notF m (uptoF (c+1))) else firstF m:=by unfold nextF;rw [if_neg (by omega)]
  rw [e];clear e;generalize uptoF (c+1)=u at *;generalize notF m u=x at *
  by_cases hx:x=0
  ·subst hx
   rw [if_neg (by simp)];generalize firstF m=r at *
   go_enter func285,ntmps285
   go_wp2_with (first | (go_at_call 48;refine U.out.mono ?_;rintro e w' ⟨rfl,rfl⟩) | (go_at_call 163;refine FM.out.mono ?_;rintro e w' ⟨rfl,rfl⟩))
   go_returns
   exact ⟨rfl,rfl⟩
  ·rw [if_pos hx]
   have h0:((x:Int) != 0)=true:=by simpa using hx
   clear hx;generalize firstF x=r at *
   go_enter func285,ntmps285
   go_wp2_with (first | (go_at_call 48;refine U.out.mono ?_;rintro e w' ⟨rfl,rfl⟩) | (go_at_call 163;refine FN.out.mono ?_;rintro e w' ⟨rfl,rfl⟩))
   go_returns
   exact ⟨rfl,rfl⟩
def lgo:Nat→Nat→List Int
 | 0,_=>[]
 | f+1,m=>if m=0 then [] else ((Lib.ctz 64 m:Nat):Int)::lgo f (m &&& (m - 1))
def listF (m:Nat):List Int:=lgo m m
theorem and_pred_lt {m:Nat} (h:m≠0):m &&& (m - 1) < m:=Nat.lt_of_le_of_lt Nat.and_le_right (by omega)
theorem lgo_fuel : ∀ (f m : Nat), m ≤ f → lgo f m = lgo m m
  | 0, m, h => by have : m = 0 := by omega
                  subst this; rfl
  | f + 1, m, h => by
    by_cases hm : m = 0
    · subst hm; rfl
    · obtain ⟨k, rfl⟩ : ∃ k, m = k + 1 := ⟨m - 1, by omega⟩
      have hl := and_pred_lt hm
      simp only [lgo, hm, if_false]
      rw [lgo_fuel f _ (by omega), lgo_fuel k _ (by omega)]
theorem listF_zero:listF 0=[]:=rfl
theorem listF_step {m:Nat} (h:m≠0):listF m=((Lib.ctz 64 m:Nat):Int)::listF (m &&& (m - 1)):=by
 obtain ⟨k,rfl⟩:∃ k,m=k+1:=⟨m - 1,by omega⟩
 have hl:=and_pred_lt h
 unfold listF
 simp only [lgo,h,if_false]
 rw [lgo_fuel k _ (by omega)]
theorem pred_dvd {k m:Nat} (h:2 ^ k ∣ m) (h0:m≠0):2 ^ (k+1) ∣ m &&& (m - 1):=by
 obtain ⟨t,rfl⟩:=h
 have ht:t≠0:=fun e=>h0 (by rw [e];simp)
 have hp:0 < 2 ^ k:=Nat.pow_pos (by omega)
 apply Nat.dvd_of_mod_eq_zero
 apply Nat.eq_of_testBit_eq
 intro i
 rw [Nat.testBit_mod_two_pow,Nat.zero_testBit,Nat.testBit_and]
 by_cases hi:i < k+1
 ·simp only [hi,decide_true,Bool.true_and]
  rw [Nat.testBit_two_pow_mul]
  by_cases hk:k≤i
  ·have:i=k:=by omega
   subst this
   have e:(2 ^ i*t - 1) / 2 ^ i=t - 1:=by
    have e2:2 ^ i*t - 1=2 ^ i*(t - 1)+(2 ^ i - 1):=by
     obtain ⟨u,rfl⟩:∃ u,t=u+1:=⟨t - 1,by omega⟩
     rw [Nat.mul_add,Nat.add_sub_cancel];omega
    rw [e2,Nat.mul_add_div hp,Nat.div_eq_of_lt (by omega)]
    omega
   simp only [Nat.testBit_eq_decide_div_mod_eq,e,Nat.sub_self]
   simp
   omega
  ·simp [hk]
 ·simp [hi]
theorem Tab.below (h:Tab w) (hs:2 < w.heap.size) (hb:Below w.heap.size w w'):Tab w':=fun j hj=>(hb.cell (p:=⟨2,j,none⟩) hs).trans (h j hj)
theorem u64_pred (m:Nat) (hm:m < top64) (h0:m≠0):IntKind.u64.wrap ((m:Int) - 1)=((m - 1:Nat):Int):=by unfold top64 at hm;rw [IntKind.wrap_u64];omega
theorem mlist_any (m:Nat) (hm:m < top64) (w:World) (hT:Tab w) (h2:2 < w.heap.size):Calls prog 337 #[.int .u64 m] w fun e w'=>(∃ v,e=.returned v∧IntsAt w' (fun b=>w.heap.size≤b) v (listF m))∧Below w.heap.size w w':=by
 have HT:=Hd hT;clear hT
 go_enter func337,ntmps337
 go_wp2
 go_loopw [0,3] (fun mv lv wr=>∃ m' l',mv=.int .u64 (m':Nat)∧IntsAt wr (fun b=>w.heap.size≤b) lv l'∧Below w.heap.size w wr∧m' < top64∧Hid (listF m=l'++listF m')∧Hid (2 ^ l'.length ∣ m')) (fun mv _ _=>(intOf mv).toNat)
 case atStart=>exact ⟨m,[],rfl,IntsAt.nil _ _,Below.refl _ _,hm,Hd (by simp),Hd (by simp)⟩
 case round =>
  obtain ⟨m',l',rfl,hl,hB,hm',HL,HN⟩:=hrel;have H1:=Hd hl;have HB:=Hd hB;have hz:=hB.size;clear hl hB
  by_cases h0:m'=0
  ·subst h0
   go_wp2;go_returns
   exact ⟨⟨_,rfl,by rw [HL.out,listF_zero,List.append_nil];exact H1.out⟩,HB.out⟩
  ·have hb:((m':Int) != 0)=true:=by simpa using h0
   have hp:=u64_pred m' hm' h0
   have ha:=and64 m' (m' - 1) hm' (by omega)
   have hq:=and_pred_lt h0
   have HS:=Hd (listF_step h0)
   have T:=Hd (tz_any m' hm' wr (HT.out.below h2 HB.out))
   have hle:l'.length≤1099511627776:=by
    have h1:=Nat.le_of_dvd (by omega) HN.out
    have h2:l'.length < 64:=by
     by_cases hc:l'.length < 64
     ·exact hc
     ·have:=Nat.pow_le_pow_right (n:=2) (by omega) (show 64≤l'.length by omega)
      unfold top64 at hm'
      omega
    omega
   have HD:=Hd (pred_dvd HN.out h0);clear h0;generalize m' &&& (m' - 1)=q at *
   go_wp2_with (first | (go_at_call 231;refine T.out.mono ?_;rintro e w' ⟨rfl,rfl⟩) | (at_builtin;go_must (refine wpList_app1 rfl _ _ rfl (H1.out.ch ((Ch.refl (fun _=>False) _).alloc _) (fun _ _ h=>h)) (by rfl) (by rfl) (World.cell?_alloc_new _ _ _ _) hle ?_)))
   intro v' w1 h1 hc1
   replace h1:=Hd (h1.mono (G:=fun b=>w.heap.size≤b) (fun b hb=>hb.elim id (fun h=>by have:=h.1;simp at this;omega)))
   replace hc1:=Hd (HB.out.trans ((((Ch.refl (fun b=>w.heap.size≤b) wr).alloc _).trans hc1).below hz (fun k hk h=>by omega)))
   clear H1 HN;go_wp2;go_roundw
   case rel=>exact ⟨q,_,rfl,h1.out,hc1.out,by omega,Hd (by rw [HL.out,HS.out];simp),Hd (by simpa using HD.out)⟩
   case measure=>simp [intOf];omega
structure Slot where
 m:Nat
 many:Int
structure SlotAtQ (w:World) (F:Nat→Prop) (p q most:Nat) (s:Slot):Prop where
 head:Blk w p #[.slice (some ⟨q,0,none⟩) 1 1,.int .i64 most,.int .i64 s.many] 288
 word:Blk w q #[.int .u64 s.m] 37
 fp:F p
 fq:F q
 ne:p≠q
 lt:s.m < top64
 m1:1≤most
 m64:most≤64
def SlotAt (w:World) (F:Nat→Prop) (p most:Nat) (s:Slot):Prop:=∃ q,SlotAtQ w F p q most s
theorem SlotAt.ch {F G:Nat→Prop} {p most:Nat} {s:Slot} (h:SlotAt w F p most s) (hc:Ch G w w') (hd:∀ b,F b→¬ G b):SlotAt w' F p most s:=by
 obtain ⟨q,h⟩:=h
 exact ⟨q,h.head.ch hc (hd p h.fp),h.word.ch hc (hd q h.fq),h.fp,h.fq,h.ne,h.lt,h.m1,h.m64⟩
theorem SlotAt.mono {F G:Nat→Prop} {p most:Nat} {s:Slot} (h:SlotAt w F p most s) (hd:∀ b,F b→G b):SlotAt w G p most s:=by
 obtain ⟨q,h⟩:=h
 exact ⟨q,h.head,h.word,hd p h.fp,hd q h.fq,h.ne,h.lt,h.m1,h.m64⟩
theorem SlotAt.below {p most:Nat} {s:Slot} (h:SlotAt w F p most s) (hb:Below w.heap.size w w'):SlotAt w' F p most s:=h.ch (Ch.off hb) (fun _ _ h=>h)
def slotHas (most:Nat) (s:Slot) (n:Int):Bool:=decide (1≤n∧n≤most) && s.m.testBit (n - 1).toNat
theorem bit_out (w:World) {p most:Nat} {s:Slot} (h:SlotAt w F p most s) (n:Int) (hn:n < 1∨(1≤n∧(most:Int) < n)):Calls prog 182 #[.pointer (some ⟨p,0,none⟩),.int .i64 n] w fun e w'=>e=.returned (.tuple #[.pointer none,.int .u64 0])∧w=w':=by
 obtain ⟨q,h⟩:=h
 have c1:w.cell? ⟨p,1,none⟩=some (.int .i64 most):=h.head.cell 1
 clear h
 rcases hn with hn | ⟨hn1,hn⟩
 all_goals
  go_enter func182,ntmps182
  go_wp2;go_returns
  exact ⟨rfl,rfl⟩
theorem bit_in (w:World) {p q most:Nat} {s:Slot} (h:SlotAtQ w F p q most s) (i:Nat) (hi:i < most):Calls prog 182 #[.pointer (some ⟨p,0,none⟩),.int .i64 ((i:Int)+1)] w fun e w'=>e=.returned (.tuple #[.pointer (some ⟨q,0,none⟩),.int .u64 ((2 ^ i:Nat):Int)])∧∃ n,w'=w.drewN n:=by
 have c0:w.cell? ⟨p,0,none⟩=some (.slice (some ⟨q,0,none⟩) 1 1):=h.head.cell 0
 have c1:w.cell? ⟨p,1,none⟩=some (.int .i64 most):=h.head.cell 1
 have m64:=h.m64
 have hs:=wrap_pow i (by omega)
 clear h
 have d1:i / 64=0:=by omega
 have d2:i % 64=i:=by omega
 generalize 2 ^ i=b at *
 go_enter func182,ntmps182
 go_wp2;go_quiet (fail);go_wp2;go_returns
 exact ⟨by simp [d1,d2,hs],_,rfl⟩
theorem and_pow (m i:Nat):(m &&& 2 ^ i != 0)=m.testBit i:=by
 rw [Bool.eq_iff_iff,bne_iff_ne]
 constructor
 ·intro h
  cases ht:m.testBit i with
  | true=>rfl
  | false =>
   refine absurd (Nat.eq_of_testBit_eq fun j=>?_) h
   rw [Nat.testBit_and,Nat.testBit_two_pow,Nat.zero_testBit]
   by_cases hj:i=j
   ·subst hj;simp [ht]
   ·simp [hj]
 ·intro h e
  have:=congrArg (fun x=>x.testBit i) e
  simp [Nat.testBit_and,h] at this
theorem shas_any (w:World) {p most:Nat} {s:Slot} (h:SlotAt w F p most s) (n:Int):Calls prog 106 #[.pointer (some ⟨p,0,none⟩),.int .i64 n] w fun e w'=>e=.returned (.bool (slotHas most s n))∧∃ k,w'=w.drewN k:=by
 by_cases hn:n < 1∨(1≤n∧(most:Int) < n)
 ·have B:=Hd (bit_out w h n hn)
  have e:slotHas most s n=false:=by unfold slotHas;rw [decide_eq_false (by omega),Bool.false_and]
  rw [e];clear e hn h
  go_enter func106,ntmps106
  go_wp2_with (go_at_call 182;refine B.out.mono ?_;rintro e w' ⟨rfl,rfl⟩)
  go_returns
  exact ⟨rfl,0,rfl⟩
 ·obtain ⟨i,rfl⟩:∃ i:Nat,n=(i:Int)+1:=⟨(n - 1).toNat,by omega⟩
  obtain ⟨q,hq⟩:=h
  have B:=Hd (bit_in w hq i (by omega))
  have c0:w.cell? ⟨q,0,none⟩=some (.int .u64 s.m):=hq.word.cell 0
  have m64:=hq.m64
  have e:slotHas most s ((i:Int)+1)=(s.m &&& 2 ^ i != 0):=by
   unfold slotHas;rw [decide_eq_true (by omega),Bool.true_and,and_pow]
   congr 1
   omega
  have ha:=and64 s.m (2 ^ i) hq.lt (pow_lt64 (by omega))
  rw [e];clear e hn hq;generalize s.m=m at *;generalize 2 ^ i=b at *;generalize m &&& b=r at *
  have hr:(((r:Nat):Int) != 0)=(r != 0):=by rw [Bool.eq_iff_iff];simp
  go_enter func106,ntmps106
  go_wp2_with (go_at_call 182;refine B.out.mono ?_;rintro e w' ⟨rfl,k,rfl⟩)
  go_returns
  exact ⟨by simp [hr],k,rfl⟩
end Go.Proofs.YtiocbpabbjgkhaaGreatDoor
