/- Part 25 of the proof: contracts and plain laws, each under the conditions that it names. -/
import Derived.Test.YtiocbpabbjgkhaaGreatDoorOnc24
import Derived.Deep.Cut
set_option maxRecDepth 100000
set_option maxHeartbeats 20000000
set_option linter.unusedVariables false
set_option linter.unusedSimpArgs false
namespace Go.Proofs.YtiocbpabbjgkhaaGreatDoor
open Go.RowKit Go.Proofs.Tryz
variable {w w' : World} {F : Nat → Prop} {p : Nat} {f : KF} {k : K}
theorem new_no (w:World) (cpus:Int) (h:cpus < 1∨64 < cpus):Calls prog 7 #[.int .i64 cpus] w fun e w'=>e=.returned (.tuple #[.pointer none,.int .i64 2])∧w=w':=by
 by_cases h1:cpus < 1
 ·go_enter func7,ntmps7
  go_wp2;go_returns
  exact ⟨rfl,rfl⟩
 ·have h2:64 < cpus:=by omega
  clear h
  go_enter func7,ntmps7
  go_wp2;go_returns
  exact ⟨rfl,rfl⟩
theorem Blk.keep {b:Nat} {v:Array Value} {t:TypeId} (h:Blk w b v t) (hb:Below w.heap.size w w'):Blk w' b v t:=h.ch (Ch.off hb) (fun h=>h)
theorem new_any (w:World) (cpus:Nat) (hc1:1≤cpus) (h64:cpus≤64) (hT:Tab w) (hw2:2 < w.heap.size):Calls prog 7 #[.int .i64 cpus] w fun e w'=>(∃ p f,e=.returned (.tuple #[.pointer (some ⟨p,0,none⟩),.int .i64 0])∧KAt w' (Plus w w' (fun _=>False)) p f (kNew cpus))∧Below w.heap.size w w':=by
 have hmm:=@run_makeMap prog
 have U:=Hd (upto_any cpus w)
 have g1:¬ ((cpus:Int) < 1):=by omega
 have g2:¬ (64 < (cpus:Int)):=by omega
 go_enter func7,ntmps7
 go_wp2_with fail;refine U.out.mono ?_;rintro e w1 ⟨rfl,rfl⟩;clear U
 obtain ⟨V0,hV0⟩:∃ V0,V0=(w.alloc (.map #[] 0)).alloc (.cells #[.pointer none,.pointer none,.pointer none,.pointer none,.pointer none,.pointer none,.pointer none,.pointer none,.pointer none,.pointer none,.pointer none,.pointer none,.pointer none,.pointer none,.slice none 0 0,.int .i64 cpus,.int .u64 (uptoF cpus:Nat),.int .u64 (uptoF cpus:Nat),.int .i64 0,.int .i64 1073741824,.map (some w.heap.size)] 104):=⟨_,rfl⟩
 have hs0:V0.heap.size=w.heap.size+2:=by rw [hV0];simp
 have HM:Hid (IMapAt V0 w.heap.size []):=Hd (by rw [hV0];exact MapAt.ch (MapAt.new w) ((Ch.refl (fun _=>False) _).alloc _) (fun h=>h))
 have HP:Hid (Blk V0 (w.heap.size+1) #[.pointer none,.pointer none,.pointer none,.pointer none,.pointer none,.pointer none,.pointer none,.pointer none,.pointer none,.pointer none,.pointer none,.pointer none,.pointer none,.pointer none,.slice none 0 0,.int .i64 cpus,.int .u64 (uptoF cpus:Nat),.int .u64 (uptoF cpus:Nat),.int .i64 0,.int .i64 1073741824,.map (some w.heap.size)] 104):=Hd (by rw [hV0];exact Blk.at _ _ (by simp))
 have HB:Hid (Below w.heap.size w V0):=Hd (by rw [hV0];exact ((Below.refl _ _).alloc (Nat.le_refl _) _).alloc (by simp) _)
 replace hV0:=Hd hV0;replace hs0:=Hd hs0
 have A:=Hd (tnew_any V0 (cpus:Int) (by omega) (by omega))
 go_wp2_with fail;rw [← hV0.out];refine A.out.mono ?_;rintro e w0 ⟨⟨x0,rfl,h0⟩,b0⟩;replace h0:=Hd h0;replace b0:=Hd b0;replace HP:=Hd (HP.out.keep b0.out)
 have C0:=Hd (Ch.of_below (F:=fun b=>b=w.heap.size+1) b0.out)
 clear A;go_wp2_with fail;refine (need49 w0 x0).mono ?_;rintro e w' ⟨rfl,rfl⟩;have A:=Hd (runq_new w0 cpus hc1 h64);go_wp2_with fail;refine A.out.mono ?_;rintro e w1 ⟨⟨x1,rfl,h1⟩,b1⟩;replace h1:=Hd h1;replace b1:=Hd b1;replace HP:=Hd (HP.out.keep b1.out)
 have C1:=Hd (Ch.of_below (F:=fun b=>b=w.heap.size+1) b1.out)
 clear A;go_wp2_with fail;refine (need51 w1 x1).mono ?_;rintro e w' ⟨rfl,rfl⟩;have y1:=HP.out.cell 0;have y2:=HP.out.cell 1
 have fr:=fun o=>HP.out.frozen o
 obtain ⟨V1,hV1⟩:∃ V,V=(w1.setCell ⟨w.heap.size+1,0,none⟩ (.pointer (some ⟨x0,0,none⟩))).setCell ⟨w.heap.size+1,1,none⟩ (.pointer (some ⟨x1,0,none⟩)):=⟨_,rfl⟩
 have CV1:Hid (Ch (fun b=>b=w.heap.size+1) w1 V1):=Hd (by rw [hV1];exact ((Ch.refl (fun b=>b=w.heap.size+1) _).setCell (p:=⟨w.heap.size+1,0,none⟩) (fun _=>rfl) _).setCell (p:=⟨w.heap.size+1,1,none⟩) (fun _=>rfl) _)
 have sV1:V1.heap.size=w1.heap.size:=by rw [hV1];simp
 have HQ:Blk V1 (w.heap.size+1) #[.pointer (some ⟨x0,0,none⟩),.pointer (some ⟨x1,0,none⟩),.pointer none,.pointer none,.pointer none,.pointer none,.pointer none,.pointer none,.pointer none,.pointer none,.pointer none,.pointer none,.pointer none,.pointer none,.slice none 0 0,.int .i64 cpus,.int .u64 (uptoF cpus:Nat),.int .u64 (uptoF cpus:Nat),.int .i64 0,.int .i64 1073741824,.map (some w.heap.size)] 104:=by rw [hV1];exact (HP.out.set 0 _).set 1 _
 replace HP:=Hd HQ;replace hV1:=Hd hV1;replace sV1:=Hd sV1;clear HQ;have A:=Hd (timer_new V1 cpus hc1 h64);go_wp2_with fail;clear y1 y2 fr;rw [← hV1.out];refine A.out.mono ?_;rintro e w2 ⟨⟨x2,rfl,h2⟩,b2⟩;replace h2:=Hd h2;replace b2:=Hd b2;replace HP:=Hd (HP.out.keep b2.out)
 have C2:=Hd (Ch.of_below (F:=fun b=>b=w.heap.size+1) b2.out)
 clear A;go_wp2_with fail;refine (need53 w2 x2).mono ?_;rintro e w' ⟨rfl,rfl⟩;have A:=Hd (inew_any w2 cpus hc1 h64);go_wp2_with fail;refine A.out.mono ?_;rintro e w3 ⟨⟨x3,rfl,h3⟩,b3⟩;replace h3:=Hd h3;replace b3:=Hd b3;replace HP:=Hd (HP.out.keep b3.out)
 have C3:=Hd (Ch.of_below (F:=fun b=>b=w.heap.size+1) b3.out)
 clear A;go_wp2_with fail;refine (need55 w3 x3).mono ?_;rintro e w' ⟨rfl,rfl⟩;have y1:=HP.out.cell 2;have y2:=HP.out.cell 3
 have fr:=fun o=>HP.out.frozen o
 obtain ⟨V2,hV2⟩:∃ V,V=(w3.setCell ⟨w.heap.size+1,2,none⟩ (.pointer (some ⟨x2,0,none⟩))).setCell ⟨w.heap.size+1,3,none⟩ (.pointer (some ⟨x3,0,none⟩)):=⟨_,rfl⟩
 have CV2:Hid (Ch (fun b=>b=w.heap.size+1) w3 V2):=Hd (by rw [hV2];exact ((Ch.refl (fun b=>b=w.heap.size+1) _).setCell (p:=⟨w.heap.size+1,2,none⟩) (fun _=>rfl) _).setCell (p:=⟨w.heap.size+1,3,none⟩) (fun _=>rfl) _)
 have sV2:V2.heap.size=w3.heap.size:=by rw [hV2];simp
 have HQ:Blk V2 (w.heap.size+1) #[.pointer (some ⟨x0,0,none⟩),.pointer (some ⟨x1,0,none⟩),.pointer (some ⟨x2,0,none⟩),.pointer (some ⟨x3,0,none⟩),.pointer none,.pointer none,.pointer none,.pointer none,.pointer none,.pointer none,.pointer none,.pointer none,.pointer none,.pointer none,.slice none 0 0,.int .i64 cpus,.int .u64 (uptoF cpus:Nat),.int .u64 (uptoF cpus:Nat),.int .i64 0,.int .i64 1073741824,.map (some w.heap.size)] 104:=by rw [hV2];exact (HP.out.set 2 _).set 3 _
 replace HP:=Hd HQ;replace hV2:=Hd hV2;replace sV2:=Hd sV2;clear HQ;have A:=Hd (onew_any V2 cpus hc1 h64);go_wp2_with fail;clear y1 y2 fr;rw [← hV2.out];refine A.out.mono ?_;rintro e w4 ⟨⟨x4,rfl,h4⟩,b4⟩;replace h4:=Hd h4;replace b4:=Hd b4;replace HP:=Hd (HP.out.keep b4.out)
 have C4:=Hd (Ch.of_below (F:=fun b=>b=w.heap.size+1) b4.out)
 clear A;go_wp2_with fail;refine (need57 w4 x4).mono ?_;rintro e w' ⟨rfl,rfl⟩;have A:=Hd (work_new w4 cpus hc1 h64);go_wp2_with fail;refine A.out.mono ?_;rintro e w5 ⟨⟨x5,rfl,h5⟩,b5⟩;replace h5:=Hd h5;replace b5:=Hd b5;replace HP:=Hd (HP.out.keep b5.out)
 have C5:=Hd (Ch.of_below (F:=fun b=>b=w.heap.size+1) b5.out)
 clear A;go_wp2_with fail;refine (need59 w5 x5).mono ?_;rintro e w' ⟨rfl,rfl⟩;have y1:=HP.out.cell 4;have y2:=HP.out.cell 5
 have fr:=fun o=>HP.out.frozen o
 obtain ⟨V3,hV3⟩:∃ V,V=(w5.setCell ⟨w.heap.size+1,4,none⟩ (.pointer (some ⟨x4,0,none⟩))).setCell ⟨w.heap.size+1,5,none⟩ (.pointer (some ⟨x5,0,none⟩)):=⟨_,rfl⟩
 have CV3:Hid (Ch (fun b=>b=w.heap.size+1) w5 V3):=Hd (by rw [hV3];exact ((Ch.refl (fun b=>b=w.heap.size+1) _).setCell (p:=⟨w.heap.size+1,4,none⟩) (fun _=>rfl) _).setCell (p:=⟨w.heap.size+1,5,none⟩) (fun _=>rfl) _)
 have sV3:V3.heap.size=w5.heap.size:=by rw [hV3];simp
 have HQ:Blk V3 (w.heap.size+1) #[.pointer (some ⟨x0,0,none⟩),.pointer (some ⟨x1,0,none⟩),.pointer (some ⟨x2,0,none⟩),.pointer (some ⟨x3,0,none⟩),.pointer (some ⟨x4,0,none⟩),.pointer (some ⟨x5,0,none⟩),.pointer none,.pointer none,.pointer none,.pointer none,.pointer none,.pointer none,.pointer none,.pointer none,.slice none 0 0,.int .i64 cpus,.int .u64 (uptoF cpus:Nat),.int .u64 (uptoF cpus:Nat),.int .i64 0,.int .i64 1073741824,.map (some w.heap.size)] 104:=by rw [hV3];exact (HP.out.set 4 _).set 5 _
 replace HP:=Hd HQ;replace hV3:=Hd hV3;replace sV3:=Hd sV3;clear HQ;have A:=Hd (box_new V3 cpus hc1 h64);go_wp2_with fail;clear y1 y2 fr;rw [← hV3.out];refine A.out.mono ?_;rintro e w6 ⟨⟨x6,rfl,h6⟩,b6⟩;replace h6:=Hd h6;replace b6:=Hd b6;replace HP:=Hd (HP.out.keep b6.out)
 have C6:=Hd (Ch.of_below (F:=fun b=>b=w.heap.size+1) b6.out)
 clear A;go_wp2_with fail;refine (need61 w6 x6).mono ?_;rintro e w' ⟨rfl,rfl⟩;have A:=Hd (hnew_any w6 cpus hc1 h64);go_wp2_with fail;refine A.out.mono ?_;rintro e w7 ⟨⟨x7,rfl,h7⟩,b7⟩;replace h7:=Hd h7;replace b7:=Hd b7;replace HP:=Hd (HP.out.keep b7.out)
 have C7:=Hd (Ch.of_below (F:=fun b=>b=w.heap.size+1) b7.out)
 clear A;go_wp2_with fail;refine (need63 w7 x7).mono ?_;rintro e w' ⟨rfl,rfl⟩;have y1:=HP.out.cell 6;have y2:=HP.out.cell 7
 have fr:=fun o=>HP.out.frozen o
 obtain ⟨V4,hV4⟩:∃ V,V=(w7.setCell ⟨w.heap.size+1,6,none⟩ (.pointer (some ⟨x6,0,none⟩))).setCell ⟨w.heap.size+1,7,none⟩ (.pointer (some ⟨x7,0,none⟩)):=⟨_,rfl⟩
 have CV4:Hid (Ch (fun b=>b=w.heap.size+1) w7 V4):=Hd (by rw [hV4];exact ((Ch.refl (fun b=>b=w.heap.size+1) _).setCell (p:=⟨w.heap.size+1,6,none⟩) (fun _=>rfl) _).setCell (p:=⟨w.heap.size+1,7,none⟩) (fun _=>rfl) _)
 have sV4:V4.heap.size=w7.heap.size:=by rw [hV4];simp
 have HQ:Blk V4 (w.heap.size+1) #[.pointer (some ⟨x0,0,none⟩),.pointer (some ⟨x1,0,none⟩),.pointer (some ⟨x2,0,none⟩),.pointer (some ⟨x3,0,none⟩),.pointer (some ⟨x4,0,none⟩),.pointer (some ⟨x5,0,none⟩),.pointer (some ⟨x6,0,none⟩),.pointer (some ⟨x7,0,none⟩),.pointer none,.pointer none,.pointer none,.pointer none,.pointer none,.pointer none,.slice none 0 0,.int .i64 cpus,.int .u64 (uptoF cpus:Nat),.int .u64 (uptoF cpus:Nat),.int .i64 0,.int .i64 1073741824,.map (some w.heap.size)] 104:=by rw [hV4];exact (HP.out.set 6 _).set 7 _
 replace HP:=Hd HQ;replace hV4:=Hd hV4;replace sV4:=Hd sV4;clear HQ;have A:=Hd (snew_any V4 cpus hc1 h64);go_wp2_with fail;clear y1 y2 fr;rw [← hV4.out];refine A.out.mono ?_;rintro e w8 ⟨⟨x8,rfl,h8⟩,b8⟩;replace h8:=Hd h8;replace b8:=Hd b8;replace HP:=Hd (HP.out.keep b8.out)
 have C8:=Hd (Ch.of_below (F:=fun b=>b=w.heap.size+1) b8.out)
 clear A;go_wp2_with fail;refine (need65 w8 x8).mono ?_;rintro e w' ⟨rfl,rfl⟩;have A:=Hd (gnew_any w8 cpus hc1 h64);go_wp2_with fail;refine A.out.mono ?_;rintro e w9 ⟨⟨x9,rfl,h9⟩,b9⟩;replace h9:=Hd h9;replace b9:=Hd b9;replace HP:=Hd (HP.out.keep b9.out)
 have C9:=Hd (Ch.of_below (F:=fun b=>b=w.heap.size+1) b9.out)
 clear A;go_wp2_with fail;refine (need67 w9 x9).mono ?_;rintro e w' ⟨rfl,rfl⟩;have y1:=HP.out.cell 8;have y2:=HP.out.cell 9
 have fr:=fun o=>HP.out.frozen o
 obtain ⟨V5,hV5⟩:∃ V,V=(w9.setCell ⟨w.heap.size+1,8,none⟩ (.pointer (some ⟨x8,0,none⟩))).setCell ⟨w.heap.size+1,9,none⟩ (.pointer (some ⟨x9,0,none⟩)):=⟨_,rfl⟩
 have CV5:Hid (Ch (fun b=>b=w.heap.size+1) w9 V5):=Hd (by rw [hV5];exact ((Ch.refl (fun b=>b=w.heap.size+1) _).setCell (p:=⟨w.heap.size+1,8,none⟩) (fun _=>rfl) _).setCell (p:=⟨w.heap.size+1,9,none⟩) (fun _=>rfl) _)
 have sV5:V5.heap.size=w9.heap.size:=by rw [hV5];simp
 have HQ:Blk V5 (w.heap.size+1) #[.pointer (some ⟨x0,0,none⟩),.pointer (some ⟨x1,0,none⟩),.pointer (some ⟨x2,0,none⟩),.pointer (some ⟨x3,0,none⟩),.pointer (some ⟨x4,0,none⟩),.pointer (some ⟨x5,0,none⟩),.pointer (some ⟨x6,0,none⟩),.pointer (some ⟨x7,0,none⟩),.pointer (some ⟨x8,0,none⟩),.pointer (some ⟨x9,0,none⟩),.pointer none,.pointer none,.pointer none,.pointer none,.slice none 0 0,.int .i64 cpus,.int .u64 (uptoF cpus:Nat),.int .u64 (uptoF cpus:Nat),.int .i64 0,.int .i64 1073741824,.map (some w.heap.size)] 104:=by rw [hV5];exact (HP.out.set 8 _).set 9 _
 replace HP:=Hd HQ;replace hV5:=Hd hV5;replace sV5:=Hd sV5;clear HQ;have A:=Hd (cnew_any V5 cpus hc1 h64);go_wp2_with fail;clear y1 y2 fr;rw [← hV5.out];refine A.out.mono ?_;rintro e w12 ⟨⟨x12,rfl,h12⟩,b12⟩;replace h12:=Hd h12;replace b12:=Hd b12;replace HP:=Hd (HP.out.keep b12.out)
 have C12:=Hd (Ch.of_below (F:=fun b=>b=w.heap.size+1) b12.out)
 clear A;go_wp2_with fail;refine (need69 w12 x12).mono ?_;rintro e w' ⟨rfl,rfl⟩;have A:=Hd (mnew_any w12 cpus hc1 h64);go_wp2_with fail;refine A.out.mono ?_;rintro e w13 ⟨⟨x13,rfl,h13⟩,b13⟩;replace h13:=Hd h13;replace b13:=Hd b13;replace HP:=Hd (HP.out.keep b13.out)
 have C13:=Hd (Ch.of_below (F:=fun b=>b=w.heap.size+1) b13.out)
 clear A;go_wp2_with fail;refine (need71 w13 x13).mono ?_;rintro e w' ⟨rfl,rfl⟩;have y1:=HP.out.cell 12;have y2:=HP.out.cell 13
 have fr:=fun o=>HP.out.frozen o
 obtain ⟨V6,hV6⟩:∃ V,V=(w13.setCell ⟨w.heap.size+1,12,none⟩ (.pointer (some ⟨x12,0,none⟩))).setCell ⟨w.heap.size+1,13,none⟩ (.pointer (some ⟨x13,0,none⟩)):=⟨_,rfl⟩
 have CV6:Hid (Ch (fun b=>b=w.heap.size+1) w13 V6):=Hd (by rw [hV6];exact ((Ch.refl (fun b=>b=w.heap.size+1) _).setCell (p:=⟨w.heap.size+1,12,none⟩) (fun _=>rfl) _).setCell (p:=⟨w.heap.size+1,13,none⟩) (fun _=>rfl) _)
 have sV6:V6.heap.size=w13.heap.size:=by rw [hV6];simp
 have HQ:Blk V6 (w.heap.size+1) #[.pointer (some ⟨x0,0,none⟩),.pointer (some ⟨x1,0,none⟩),.pointer (some ⟨x2,0,none⟩),.pointer (some ⟨x3,0,none⟩),.pointer (some ⟨x4,0,none⟩),.pointer (some ⟨x5,0,none⟩),.pointer (some ⟨x6,0,none⟩),.pointer (some ⟨x7,0,none⟩),.pointer (some ⟨x8,0,none⟩),.pointer (some ⟨x9,0,none⟩),.pointer none,.pointer none,.pointer (some ⟨x12,0,none⟩),.pointer (some ⟨x13,0,none⟩),.slice none 0 0,.int .i64 cpus,.int .u64 (uptoF cpus:Nat),.int .u64 (uptoF cpus:Nat),.int .i64 0,.int .i64 1073741824,.map (some w.heap.size)] 104:=by rw [hV6];exact (HP.out.set 12 _).set 13 _
 replace HP:=Hd HQ;replace hV6:=Hd hV6;replace sV6:=Hd sV6;clear HQ
 go_upto_region 11 with fail
 clear y1 y2 fr;rw [← hV6.out]
 have y3:=fun o=>(HP.out.alloc o).cell 10
 have y4:=fun o o'=>((HP.out.alloc o).alloc o').cell 11
 have y5:=fun o o'=>((HP.out.alloc o).alloc o').cell 10
 have f3:=fun o j=>(HP.out.alloc o).frozen j
 have f4:=fun o o' j=>((HP.out.alloc o).alloc o').frozen j
 go_upto_region 12 with fail
 clear y3 y4 y5 f3 f4
 obtain ⟨V7,hV7⟩:∃ V,V=(((V6.alloc (.cells #[.int .u64 0,.int .u64 0] 142)).alloc (.cells #[.pointer none,.map none] 146)).setCell ⟨w.heap.size+1,10,none⟩ (.pointer (some ⟨V6.heap.size,0,none⟩))).setCell ⟨w.heap.size+1,11,none⟩ (.pointer (some ⟨V6.heap.size+1,0,none⟩)):=⟨_,rfl⟩
 rw [← hV7];have hpl:=HP.out.lt
 have CV7:Ch (fun b=>b=w.heap.size+1) V6 V7:=by rw [hV7];exact ((((Ch.refl (fun b=>b=w.heap.size+1) _).alloc _).alloc _).setCell (p:=⟨w.heap.size+1,10,none⟩) (fun _=>rfl) _).setCell (p:=⟨w.heap.size+1,11,none⟩) (fun _=>rfl) _
 have sV7:V7.heap.size=V6.heap.size+2:=by rw [hV7];simp
 have HQ:Blk V7 (w.heap.size+1) #[.pointer (some ⟨x0,0,none⟩),.pointer (some ⟨x1,0,none⟩),.pointer (some ⟨x2,0,none⟩),.pointer (some ⟨x3,0,none⟩),.pointer (some ⟨x4,0,none⟩),.pointer (some ⟨x5,0,none⟩),.pointer (some ⟨x6,0,none⟩),.pointer (some ⟨x7,0,none⟩),.pointer (some ⟨x8,0,none⟩),.pointer (some ⟨x9,0,none⟩),.pointer (some ⟨V6.heap.size,0,none⟩),.pointer (some ⟨(V6.heap.size+1),0,none⟩),.pointer (some ⟨x12,0,none⟩),.pointer (some ⟨x13,0,none⟩),.slice none 0 0,.int .i64 cpus,.int .u64 (uptoF cpus:Nat),.int .u64 (uptoF cpus:Nat),.int .i64 0,.int .i64 1073741824,.map (some w.heap.size)] 104:=by rw [hV7];exact (((HP.out.alloc _).alloc _).set 10 _).set 11 _
 have hne:V6.heap.size≠w.heap.size+1:=by omega
 have hne2:V6.heap.size+1≠w.heap.size+1:=by omega
 have k10:Blk V7 V6.heap.size #[.int .u64 0,.int .u64 0] 142:=by rw [hV7];exact ((((Blk.new V6 _ _).alloc _).ch ((Ch.refl (fun b=>b=w.heap.size+1) _).setCell (p:=⟨w.heap.size+1,10,none⟩) (fun _=>rfl) _) hne).ch ((Ch.refl (fun b=>b=w.heap.size+1) _).setCell (p:=⟨w.heap.size+1,11,none⟩) (fun _=>rfl) _) hne)
 have k11:Blk V7 (V6.heap.size+1) #[.pointer none,.map none] 146:=by rw [hV7];exact (((Blk.at (w:=V6.alloc (.cells #[.int .u64 0,.int .u64 0] 142)) _ _ (by simp)).ch ((Ch.refl (fun b=>b=w.heap.size+1) _).setCell (p:=⟨w.heap.size+1,10,none⟩) (fun _=>rfl) _) hne2).ch ((Ch.refl (fun b=>b=w.heap.size+1) _).setCell (p:=⟨w.heap.size+1,11,none⟩) (fun _=>rfl) _) hne2)
 have Dw13:Ch (fun b=>b=w.heap.size+1) w13 V7:=CV6.out.trans CV7
 have Dw12:Ch (fun b=>b=w.heap.size+1) w12 V7:=C13.out.trans Dw13
 have DV5:Ch (fun b=>b=w.heap.size+1) V5 V7:=C12.out.trans Dw12
 have Dw9:Ch (fun b=>b=w.heap.size+1) w9 V7:=CV5.out.trans DV5
 have Dw8:Ch (fun b=>b=w.heap.size+1) w8 V7:=C9.out.trans Dw9
 have DV4:Ch (fun b=>b=w.heap.size+1) V4 V7:=C8.out.trans Dw8
 have Dw7:Ch (fun b=>b=w.heap.size+1) w7 V7:=CV4.out.trans DV4
 have Dw6:Ch (fun b=>b=w.heap.size+1) w6 V7:=C7.out.trans Dw7
 have DV3:Ch (fun b=>b=w.heap.size+1) V3 V7:=C6.out.trans Dw6
 have Dw5:Ch (fun b=>b=w.heap.size+1) w5 V7:=CV3.out.trans DV3
 have Dw4:Ch (fun b=>b=w.heap.size+1) w4 V7:=C5.out.trans Dw5
 have DV2:Ch (fun b=>b=w.heap.size+1) V2 V7:=C4.out.trans Dw4
 have Dw3:Ch (fun b=>b=w.heap.size+1) w3 V7:=CV2.out.trans DV2
 have Dw2:Ch (fun b=>b=w.heap.size+1) w2 V7:=C3.out.trans Dw3
 have DV1:Ch (fun b=>b=w.heap.size+1) V1 V7:=C2.out.trans Dw2
 have Dw1:Ch (fun b=>b=w.heap.size+1) w1 V7:=CV1.out.trans DV1
 have Dw0:Ch (fun b=>b=w.heap.size+1) w0 V7:=C1.out.trans Dw1
 have DV0:Ch (fun b=>b=w.heap.size+1) V0 V7:=C0.out.trans Dw0
 have z0:=hs0.out;have z0':=b0.out.size;have z1':=b1.out.size;have z2':=b2.out.size;have z3':=b3.out.size;have z4':=b4.out.size;have z5':=b5.out.size;have z6':=b6.out.size;have z7':=b7.out.size;have z8':=b8.out.size;have z9':=b9.out.size;have z12':=b12.out.size;have z13':=b13.out.size;have t1:=sV1.out;have t2:=sV2.out;have t3:=sV3.out;have t4:=sV4.out;have t5:=sV5.out;have t6:=sV6.out
 obtain ⟨pt,hpt⟩:∃ pt:Nat→Nat,pt=fun i=>[x0,x1,x2,x3,x4,x5,x6,x7,x8,x9,V6.heap.size,(V6.heap.size+1),x12,x13].getD i 0:=⟨_,rfl⟩
 have q0:pt 0=x0:=by rw [hpt];rfl
 have q1:pt 1=x1:=by rw [hpt];rfl
 have q2:pt 2=x2:=by rw [hpt];rfl
 have q3:pt 3=x3:=by rw [hpt];rfl
 have q4:pt 4=x4:=by rw [hpt];rfl
 have q5:pt 5=x5:=by rw [hpt];rfl
 have q6:pt 6=x6:=by rw [hpt];rfl
 have q7:pt 7=x7:=by rw [hpt];rfl
 have q8:pt 8=x8:=by rw [hpt];rfl
 have q9:pt 9=x9:=by rw [hpt];rfl
 have q10:pt 10=V6.heap.size:=by rw [hpt];rfl
 have q11:pt 11=(V6.heap.size+1):=by rw [hpt];rfl
 have q12:pt 12=x12:=by rw [hpt];rfl
 have q13:pt 13=x13:=by rw [hpt];rfl
 have e0:=h0.out;rw [← q0] at e0;have e1:=h1.out;rw [← q1] at e1;have e2:=h2.out;rw [← q2] at e2;have e3:=h3.out;rw [← q3] at e3;have e4:=h4.out;rw [← q4] at e4;have e5:=h5.out;rw [← q5] at e5;have e6:=h6.out;rw [← q6] at e6;have e7:=h7.out;rw [← q7] at e7;have e8:=h8.out;rw [← q8] at e8;have e9:=h9.out;rw [← q9] at e9;have e12:=h12.out;rw [← q12] at e12;have e13:=h13.out;rw [← q13] at e13
 have HN:NewAt pt w.heap.size cpus V7 (fun b=>b=w.heap.size∨(V0.heap.size≤b∧b < V6.heap.size+2)):=by
  refine NewAt.of (a0:=V0.heap.size) (a1:=w0.heap.size) (a2:=w1.heap.size) (a3:=w2.heap.size) (a4:=w3.heap.size) (a5:=w4.heap.size) (a6:=w5.heap.size) (a7:=w6.heap.size) (a8:=w7.heap.size) (a9:=w8.heap.size) (a10:=w9.heap.size) (a11:=w12.heap.size) (a12:=w13.heap.size) (a13:=V6.heap.size+1) (a14:=V6.heap.size+2) (by omega) (by omega) (by omega) (by omega) (by omega) (by omega) (by omega) (by omega) (by omega) (by omega) (by omega) (by omega) (by omega) (by omega) (by omega) (fun b=>Iff.rfl) (by omega) (HM.out.ch DV0 (by omega)) ?h0 ?h1 ?h2 ?h3 ?h4 ?h5 ?h6 ?h7 ?h8 ?h9 ?h10 ?h11 ?h12 ?h13
  case h0=>exact own_th.mono (own_th.ch e0 Dw0 (fun b hb e=>hb.elim (fun e=>e) (fun h=>by have e:b=w.heap.size+1:=e;omega))) (fun b hb=>hb.elim (fun e=>e.elim) (fun h=>by omega)) (fun b hb=>by omega)
  case h1=>exact own_qs.mono (own_qs.ch e1 Dw1 (fun b hb e=>hb.elim (fun e=>e) (fun h=>by have e:b=w.heap.size+1:=e;omega))) (fun b hb=>hb.elim (fun e=>e.elim) (fun h=>by omega)) (fun b hb=>by omega)
  case h2=>exact own_tm.mono (own_tm.ch e2 Dw2 (fun b hb e=>hb.elim (fun e=>e) (fun h=>by have e:b=w.heap.size+1:=e;omega))) (fun b hb=>hb.elim (fun e=>e.elim) (fun h=>by omega)) (fun b hb=>by omega)
  case h3=>exact own_iq.mono (own_iq.ch e3 Dw3 (fun b hb e=>hb.elim (fun e=>e) (fun h=>by have e:b=w.heap.size+1:=e;omega))) (fun b hb=>hb.elim (fun e=>e.elim) (fun h=>by omega)) (fun b hb=>by omega)
  case h4=>exact own_rt.mono (own_rt.ch e4 Dw4 (fun b hb e=>hb.elim (fun e=>e) (fun h=>by have e:b=w.heap.size+1:=e;omega))) (fun b hb=>hb.elim (fun e=>e.elim) (fun h=>by omega)) (fun b hb=>by omega)
  case h5=>exact own_wk.mono (own_wk.ch e5 Dw5 (fun b hb e=>hb.elim (fun e=>e) (fun h=>by have e:b=w.heap.size+1:=e;omega))) (fun b hb=>hb.elim (fun e=>e.elim) (fun h=>by omega)) (fun b hb=>by omega)
  case h6=>exact own_cl.mono (own_cl.ch e6 Dw6 (fun b hb e=>hb.elim (fun e=>e) (fun h=>by have e:b=w.heap.size+1:=e;omega))) (fun b hb=>hb.elim (fun e=>e.elim) (fun h=>by omega)) (fun b hb=>by omega)
  case h7=>exact own_ob.mono (own_ob.ch e7 Dw7 (fun b hb e=>hb.elim (fun e=>e) (fun h=>by have e:b=w.heap.size+1:=e;omega))) (fun b hb=>hb.elim (fun e=>e.elim) (fun h=>by omega)) (fun b hb=>by omega)
  case h8=>exact own_ct.mono (own_ct.ch e8 Dw8 (fun b hb e=>hb.elim (fun e=>e) (fun h=>by have e:b=w.heap.size+1:=e;omega))) (fun b hb=>hb.elim (fun e=>e.elim) (fun h=>by omega)) (fun b hb=>by omega)
  case h9=>exact own_gt.mono (own_gt.ch e9 Dw9 (fun b hb e=>hb.elim (fun e=>e) (fun h=>by have e:b=w.heap.size+1:=e;omega))) (fun b hb=>hb.elim (fun e=>e.elim) (fun h=>by omega)) (fun b hb=>by omega)
  case h10=>exact ⟨by rw [q10];exact k10,by rw [q10];exact ⟨by omega,by omega⟩,by decide,by decide⟩
  case h11=>exact ⟨.pointer none,.map none,fun _=>0,by rw [q11];exact k11,by rw [q11];exact ⟨⟨by omega,by omega⟩,rfl⟩,rfl,rfl,fun b hb=>by omega⟩
  case h12=>exact own_co.mono (own_co.ch e12 Dw12 (fun b hb e=>hb.elim (fun e=>e) (fun h=>by have e:b=w.heap.size+1:=e;omega))) (fun b hb=>hb.elim (fun e=>e.elim) (fun h=>by omega)) (fun b hb=>by omega)
  case h13=>exact own_mt.mono (own_mt.ch e13 Dw13 (fun b hb e=>hb.elim (fun e=>e) (fun h=>by have e:b=w.heap.size+1:=e;omega))) (fun b hb=>hb.elim (fun e=>e.elim) (fun h=>by omega)) (fun b hb=>by omega)
 have H0:NewPart pt w.heap.size cpus w V7 (w.heap.size+1) 0 (.slice none 0 0) (fun _=>0) (fun b=>if b=w.heap.size+1 then 3 else 0):=by
  refine ⟨?_,RowAt.nil _ _ _ _,(new_keeps _ _ _).mono HN (fun b hb=>⟨.inr ⟨by omega,by omega⟩,?_⟩) (fun b hb=>plus0_lt b hb.1),⟨.inr ⟨by omega,by omega⟩,by simp⟩,fun i hi=>by omega,?_⟩
  ·unfold newHd kCells
   rw [q0,q1,q2,q3,q4,q5,q6,q7,q8,q9,q10,q11,q12,q13]
   exact HQ
  ·have:b≠w.heap.size+1:=by omega
   simp [this]
  ·have hb:=HB.out
   exact ⟨DV0.os.trans hb.os,DV0.tape.trans hb.tape,DV0.output.trans hb.output,by omega,fun b h=>(DV0.block b (by omega) (fun e=>by have e:b=w.heap.size+1:=e;omega)).trans (hb.block b h)⟩
 clear HN HQ k10 k11 hpt hne hne2 CV7 sV7 hpl HM HP HB hs0 z0 hV7 hV0 q0 q1 q2 q3 q4 q5 q6 q7 q8 q9 q10 q11 q12 q13 t1 sV1 hV1 CV1 t2 sV2 hV2 CV2 t3 sV3 hV3 CV3 t4 sV4 hV4 CV4 t5 sV5 hV5 CV5 t6 sV6 hV6 CV6 h0 b0 C0 z0' Dw0 e0 h1 b1 C1 z1' Dw1 e1 h2 b2 C2 z2' Dw2 e2 h3 b3 C3 z3' Dw3 e3 h4 b4 C4 z4' Dw4 e4 h5 b5 C5 z5' Dw5 e5 h6 b6 C6 z6' Dw6 e6 h7 b7 C7 z7' Dw7 e7 h8 b8 C8 z8' Dw8 e8 h9 b9 C9 z9' Dw9 e9 h12 b12 C12 z12' Dw12 e12 h13 b13 C13 z13' Dw13 e13 DV0 DV1 DV2 DV3 DV4 DV5;replace H0:=Hd H0;have hTT:=Hd hT;go_wp2_with fail
 go_loopw [141] (fun iv wr=>∃ k:Nat,iv=.int .i64 k∧k≤cpus∧∃ rv ptrs c,Hid (NewPart pt w.heap.size cpus w wr (w.heap.size+1) k rv ptrs c)) (fun iv _=>cpus - (intOf iv).toNat)
 case atStart=>exact ⟨0,rfl,by omega,_,_,_,H0⟩
 case round =>
  clear H0 hmm;obtain ⟨k,rfl,hk,rv,ptrs,c,H⟩:=hrel
  by_cases hlt:k < cpus
  ·have A:Calls prog 74 #[.int .i64 100,.int .i64 1000] wr.drew fun e w'=>(∃ p,e=.returned (.tuple #[.pointer (some ⟨p,0,none⟩),.int .i64 0])∧GovAt w' (Plus wr w' (fun _=>False)) p (100,1000))∧Below wr.heap.size wr.drew w':=vnew_any wr.drew 100 1000 (by decide)
   replace A:=Hd A
   have c0:wr.cell? ⟨w.heap.size+1,14,none⟩=some rv:=H.out.head.cell 14
   obtain ⟨base,cap,rfl⟩:=H.out.row.form
   go_upto_region 14 with fail
   refine wp_region_late (S:=fun w'=>w'.cell? ⟨w.heap.size+1,14,none⟩=some (.slice base k cap)) (late:=[15]) (by kernel_rfl) ?_
   have hHeld:wr.drew.cell? ⟨w.heap.size+1,14,none⟩=some (.slice base k cap):=c0
   refine wpLate.take0 (i:=0) (oi:=?_) (v:=?_) ?_ (by kernel_rfl) (by kernel_rfl) (by kernel_rfl) (by kernel_rfl) ?_ (Or.inl ⟨?_,?_⟩) (fun _=>hHeld) ?_
   rotate_left 2
   ·simp only [sD,sE,sF];rfl
   ·exact fun _ _ _ h=>h
   ·rfl
   ·intro w' hSw;clear hSw;go_simp;(try with_reducible rfl)
   (try simp only [Act.put,sA,sB,sC])
   refine wpLate.take0 (i:=1) (oi:=?_) (v:=?_) ?_ (by kernel_rfl) (by kernel_rfl) (by kernel_rfl) (by kernel_rfl) ?_ (Or.inl ⟨?_,?_⟩) (fun _=>hHeld) ?_
   rotate_left 2
   ·simp only [sD,sE,sF];rfl
   ·exact fun _ _ _ h=>h
   ·rfl
   ·intro w' hSw;clear hSw;go_simp;(try with_reducible rfl)
   (try simp only [Act.put,sA,sB,sC])
   refine wpLate.take0 (i:=2) (oi:=?_) (v:=?_) ?_ (by kernel_rfl) (by kernel_rfl) (by kernel_rfl) (by kernel_rfl) ?_ (Or.inl ⟨?_,?_⟩) (fun _=>hHeld) ?_
   rotate_left 2
   ·simp only [sD,sE,sF];rfl
   ·exact fun _ _ _ h=>h
   ·rfl
   ·intro w' hSw;clear hSw;go_simp;(try with_reducible rfl)
   (try simp only [Act.put,sA,sB,sC])
   refine wpLate.take0 (i:=3) (oi:=?_) (v:=?_) ?_ (by kernel_rfl) (by kernel_rfl) (by kernel_rfl) (by kernel_rfl) ?_ (Or.inl ⟨?_,?_⟩) (fun _=>hHeld) ?_
   rotate_left 2
   ·simp only [sD,sE,sF];rfl
   ·exact fun _ _ _ h=>h
   ·rfl
   ·intro w' hSw;clear hSw;go_simp;(try with_reducible rfl)
   (try simp only [Act.put,sA,sB,sC])
   refine wpLate.take0 (i:=4) (oi:=?_) (v:=?_) ?_ (by kernel_rfl) (by kernel_rfl) (by kernel_rfl) (by kernel_rfl) ?_ (Or.inl ⟨?_,?_⟩) (fun _=>hHeld) ?_
   rotate_left 2
   ·simp only [sD,sE,sF];rfl
   ·exact fun _ _ _ h=>h
   ·rfl
   ·intro w' hSw;clear hSw;go_simp;(try with_reducible rfl)
   (try simp only [Act.put,sA,sB,sC])
   refine wpLate.take1 (i:=5) (oi:=?_) (v:=?_) ?_ (by kernel_rfl) (by kernel_rfl) (by kernel_rfl) (by kernel_rfl) (by kernel_rfl) (by kernel_rfl) ?_ (Or.inl ⟨?_,?_⟩) hHeld ?_
   rotate_left 2
   ·simp only [sD,sE,sF];rfl
   ·exact fun _ _ _ h=>h
   ·rfl
   ·intro w' hSw;(try dsimp only at hSw);go_simp;(try with_reducible rfl)
   (try simp only [Act.put,sA,sB,sC])
   refine wpLate.one (i:=6) (o:=?_) (by kernel_rfl) ?_ (fun K hK=>?_)
   rotate_left 1
   ·simp only [sD,sE,sF];rfl
   go_simp
   (refine A.out.mono ?_;rintro e w2 ⟨⟨x,rfl,hx⟩,hb0⟩;have hb:Below wr.heap.size wr w2:=(Below.refl _ wr).drew.trans hb0;clear hb0;replace hx:=Hd hx;replace hb:=Hd hb)
   have hHeld:=keepcell hb.out c0
   refine hK.out _ _ (fun _=>hHeld) ?_
   clear hK K
   (try simp only [Act.put,sA,sB,sC])
   have hz:=Hd (H.out.head.keep hb.out)
   refine wpLate.take0 (i:=7) (oi:=?_) (v:=?_) ?_ (by kernel_rfl) (by kernel_rfl) (by kernel_rfl) (by kernel_rfl) ?_ (Or.inl ⟨?_,?_⟩) (fun _=>hHeld) ?_
   rotate_left 2
   ·simp only [sD,sE,sF];rfl
   ·exact fun _ _ _ h=>h
   ·rfl
   ·intro w' hSw;clear hSw;go_simp;(try with_reducible rfl)
   (try simp only [Act.put,sA,sB,sC])
   refine wpLate.take0 (i:=8) (oi:=?_) (v:=?_) ?_ (by kernel_rfl) (by kernel_rfl) (by kernel_rfl) (by kernel_rfl) ?_ (Or.inl ⟨?_,?_⟩) (fun _=>hHeld) ?_
   rotate_left 2
   ·simp only [sD,sE,sF];rfl
   ·exact fun _ _ _ h=>h
   ·rfl
   ·intro w' hSw;clear hSw;go_simp;(try with_reducible rfl)
   (try simp only [Act.put,sA,sB,sC])
   refine wpLate.one (i:=9) (o:=?_) (by kernel_rfl) ?_ (fun K hK=>?_)
   rotate_left 1
   ·simp only [sD,sE,sF];rfl
   go_simp
   (refine (need73 _ _).mono ?_;rintro e w4 ⟨rfl,rfl⟩)
   have hHeld:=keepcell hb.out c0
   refine hK.out _ _ (fun _=>hHeld) ?_
   clear hK K
   (try simp only [Act.put,sA,sB,sC])
   refine wpLate.one (i:=10) (o:=?_) (by kernel_rfl) ?_ (fun K hK=>?_)
   rotate_left 1
   ·simp only [sD,sE,sF];rfl
   go_simp
   have hHeld:=((hz.out.alloc (.cells #[.pointer (some ⟨x,0,none⟩)] 47)).cell 14)
   refine hK.out _ _ (fun _=>hHeld) ?_
   clear hK K
   (try simp only [Act.put,sA,sB,sC])
   have hrow:=Hd (RowAt.ch H.out.row ((Ch.off hb.out).alloc (.cells #[.pointer (some ⟨x,0,none⟩)] 47)) (fun _ _ h=>h))
   refine wpLate.one (i:=11) (o:=?_) (by kernel_rfl) ?_ (fun K hK=>?_)
   rotate_left 1
   ·simp only [List.getElem?_toArray,List.getElem?_cons_zero,List.getElem?_cons_succ];rfl
   refine step_appG rfl _ _ rfl hrow.out rfl rfl (cell_at1 _ _ rfl) rfl (by omega) ?_
   intro v' w3 h5 h6
   have hz3:=(hz.out.alloc (.cells #[.pointer (some ⟨x,0,none⟩)] 47)).ch h6 (Col.apart (by omega) _ H.out.fp)
   have c3:w3.cell? ⟨w.heap.size+1,14,none⟩=some (.slice base k cap):=hz3.cell 14
   have f3:w3.frozen? ⟨w.heap.size+1,14,none⟩=false:=hz3.frozen 14
   obtain ⟨base',cap',rfl⟩:=h5.form
   obtain ⟨c',hst⟩:=H.out.step ownG (new_keeps _ _ _) (fun _ _=>rfl) hx.out hb.out h5 h6
   replace hst:=Hd hst;have hHeld:=c3
   refine hK.out _ _ (fun _=>hHeld) ?_
   clear hK K hz3 h5 h6 hz hrow hx hb H A
   (try simp only [Act.put,List.setIfInBounds_toArray,List.set_cons_zero,List.set_cons_succ])
   refine wpLate.take0 (i:=12) (oi:=?_) (v:=?_) ?_ (by kernel_rfl) (by kernel_rfl) (by kernel_rfl) (by kernel_rfl) ?_ (Or.inl ⟨?_,?_⟩) (fun _=>hHeld) ?_
   rotate_left 2
   ·simp only [sD,sE,sF];rfl
   ·exact fun _ _ _ h=>h
   ·rfl
   ·intro w' hSw;clear hSw;go_simp;(try with_reducible rfl)
   (try simp only [Act.put,sA,sB,sC])
   refine wpLate.take0 (i:=13) (oi:=?_) (v:=?_) ?_ (by kernel_rfl) (by kernel_rfl) (by kernel_rfl) (by kernel_rfl) ?_ (Or.inl ⟨?_,?_⟩) (fun _=>hHeld) ?_
   rotate_left 2
   ·simp only [sD,sE,sF];rfl
   ·exact fun _ _ _ h=>h
   ·rfl
   ·intro w' hSw;clear hSw;go_simp;(try with_reducible rfl)
   (try simp only [Act.put,sA,sB,sC])
   refine wpLate.take0 (i:=14) (oi:=?_) (v:=?_) ?_ (by kernel_rfl) (by kernel_rfl) (by kernel_rfl) (by kernel_rfl) ?_ (Or.inl ⟨?_,?_⟩) (fun _=>hHeld) ?_
   rotate_left 2
   ·simp only [sD,sE,sF];rfl
   ·exact fun _ _ _ h=>h
   ·rfl
   ·intro w' hSw;clear hSw;go_simp;(try with_reducible rfl)
   (try simp only [Act.put,sA,sB,sC])
   refine wpLate.one (i:=15) (o:=?_) (by kernel_rfl) ?_ (fun K hK=>?_)
   rotate_left 1
   ·simp only [sD,sE,sF];rfl
   go_simp
   refine hK.out _ _ (fun e=>Bool.noConfusion (e 15 (by simp))) ?_
   clear hK K
   (try simp only [Act.put,sA,sB,sC])
   refine wpLate.done (by kernel_rfl) ?_ _
   go_wp2;go_roundw
   case rel=>exact ⟨k+1,by go_num,hlt,_,_,_,hst⟩
   case measure=>simp [intOf];omega
  ·have:k=cpus:=by omega
   subst this;go_wp2;go_returns;have hb:=H.out.below
   exact ⟨⟨_,_,rfl,NewPart.whole H.out hc1 h64 (hTT.out.below hw2 hb) hw2⟩,hb⟩
theorem few_any (w:World) (cpus:Int) (a:Option Addr) (len cap:Nat):Calls prog 8 #[.int .i64 cpus,.slice a len cap] w fun e w'=>e=.returned (.bool (decide (1≤cpus) && decide (cpus≤9) && decide (len≤300)))∧w=w':=by
 by_cases h1:1≤cpus
 ·by_cases h2:cpus≤9
  ·by_cases h3:len≤300
   ·go_enter func8,ntmps8
    go_wp2;go_returns
    simp [h1,h2,h3];omega
   ·go_enter func8,ntmps8
    go_wp2;go_returns
    simp [h1,h2,h3];omega
  ·go_enter func8,ntmps8
   go_wp2;go_returns
   simp [h1,h2];omega
 ·go_enter func8,ntmps8
  go_wp2;go_returns
  simp [h1];omega
def wout (l:List Int) (n:Int) (k:Nat):List Int:=(l.take k).erase n
def whad (l:List Int) (n:Int) (k:Nat):Bool:=(l.take k).contains n
theorem take_one {l:List Int} {k:Nat} (hk:k < l.length):l.take (k+1)=l.take k++[l.getD k 0]:=by
 rw [List.take_add_one,List.getD_eq_getElem?_getD,List.getElem?_eq_getElem hk];rfl
theorem wout_ne {l:List Int} {n:Int} {k:Nat} (hk:k < l.length) (h:l.getD k 0≠n):wout l n (k+1)=wout l n k++[l.getD k 0]∧whad l n (k+1)=whad l n k:=by
 unfold wout whad;rw [take_one hk];generalize l.take k=t;generalize l.getD k 0=x at h
 refine ⟨?_,?_⟩
 ·rw [List.erase_append]
  split
  ·rfl
  ·rename_i hn
   rw [List.erase_of_not_mem hn,List.erase_of_not_mem (by simp;exact fun e=>h e.symm)]
 ·rw [Bool.eq_iff_iff];simp;intro e;exact absurd e.symm h
theorem wout_had {l:List Int} {n:Int} {k:Nat} (hk:k < l.length) (h:l.getD k 0=n) (hh:whad l n k=true):wout l n (k+1)=wout l n k++[l.getD k 0]∧whad l n (k+1)=true:=by
 unfold whad at hh;unfold wout whad;rw [take_one hk];generalize l.take k=t at hh;generalize l.getD k 0=x at h
 have hm:n∈t:=by simpa using hh
 refine ⟨?_,by simp [hm]⟩
 rw [List.erase_append,if_pos hm]
theorem wout_first {l:List Int} {n:Int} {k:Nat} (hk:k < l.length) (h:l.getD k 0=n) (hh:whad l n k=false):wout l n (k+1)=wout l n k∧whad l n (k+1)=true:=by
 unfold whad at hh;unfold wout whad;rw [take_one hk];generalize l.take k=t at hh;generalize l.getD k 0=x at h;subst h
 have hm:¬ x∈t:=by simpa using hh
 refine ⟨?_,by simp⟩
 rw [List.erase_append,if_neg hm,List.erase_of_not_mem hm]
 simp
theorem wout_len (l:List Int) (n:Int) (k:Nat):(wout l n k).length≤l.length:=by
 unfold wout
 exact Nat.le_trans (List.length_erase_le) (by simp;omega)
theorem without_any (w:World) {v:Value} {l:List Int} (h:IntsAt w F v l) (hF:∀ b,F b→b < w.heap.size) (hl:l.length≤1000000) (n:Int):Calls prog 103 #[v,.int .i64 n] w fun e w'=>(∃ v',e=.returned (.tuple #[v',.bool (l.contains n)])∧IntsAt w' (New w) v' (l.erase n))∧Below w.heap.size w w':=by
 have HS:=Hd h
 have C:∀ w' k,Below w.heap.size w w'→k < l.length→∃ g cap,v=.slice (some ⟨g,0,none⟩) l.length cap∧l.length≤cap∧cap≤maxLen∧w'.cell? ⟨g,k,none⟩=some (.int .i64 (l.getD k 0)):=by
  intro w' k hb hk
  obtain ⟨g,cap,h1,h2,h3,h4,h5,h6,h7⟩:=(h.ch (Ch.off hb) (fun _ _ h=>h)).open (by omega)
  exact ⟨g,cap,h1,h2,h3,h6 k hk⟩
 obtain ⟨base,cap,rfl⟩:=h.form
 obtain ⟨m,hm⟩:∃ m,m=l.length:=⟨_,rfl⟩
 rw [← hm] at C hl ⊢;replace hm:=Hd hm;clear h
 go_enter func103,ntmps103
 go_wp2
 go_loopw [8,7,6] (fun iv hv ov wr=>∃ k:Nat,iv=.int .i64 k∧k≤m∧hv=.bool (whad l n k)∧Hid (IntsAt wr (New w) ov (wout l n k))∧Hid (Below w.heap.size w wr)) (fun iv _ _ _=>m - (intOf iv).toNat)
 case atStart=>exact ⟨0,rfl,Nat.zero_le _,rfl,Hd (show IntsAt w (New w) _ [] from IntsAt.nil _ _),Hd (Below.refl _ _)⟩
 case round =>
  obtain ⟨k,rfl,hk,rfl,HL,HB⟩:=hrel;have hz:=HB.out.size
  by_cases hlt:k < m
  ·obtain ⟨g,gc,hv,hle,hgm,c0⟩:=C wr k HB.out hlt
   cases hv
   have hwl:(wout l n k).length≤1099511627776:=by have:=wout_len l n k;have:=hm.out;omega
   obtain ⟨x,hx⟩:∃ x,x=l.getD k 0:=⟨_,rfl⟩
   rw [← hx] at c0
   by_cases he:x=n
   ·cases hh:whad l n k with
    | true =>
     have HH:=Hd (wout_had (hm.out ▸ hlt) (hx.symm.trans he) hh)
     have hxn:(x == n)=true:=by simpa using he
     rw [← hx] at HH;replace he:=Hd he;replace hx:=Hd hx
     go_wp2_with (at_builtin;refine wpList_app1 (n:=x) rfl _ _ rfl (IntsAt.same HL.out ?_) (by rfl) (by rfl) ?_ hwl ?_)
     ·exact (by (repeat (first | with_reducible exact Ch.refl _ _ | (with_reducible refine Ch.alloc ?_ _) | (with_reducible refine Ch.drew ?_) | (with_reducible refine Ch.drewN ?_ _))))
     ·exact cell_at1 _ _ rfl
     ·intro v' w1 h1 hc1
      replace h1:=Hd (h1.mono (New.plus (w:=w) (by simp;omega)))
      replace hc1:=Hd (New.below HB.out ((show Ch (New w) wr _ from (by (repeat (first | with_reducible exact Ch.refl _ _ | (with_reducible refine Ch.alloc ?_ _) | (with_reducible refine Ch.drew ?_) | (with_reducible refine Ch.drewN ?_ _))))).trans hc1))
      clear HL HB;go_wp2;go_roundw
      case rel=>exact ⟨k+1,by go_num,hlt,by rw [HH.out.2],Hd (by rw [HH.out.1];exact h1.out),hc1⟩
      case measure=>simp [intOf];omega
    | false =>
     have HH:=Hd (wout_first (hm.out ▸ hlt) (hx.symm.trans he) hh)
     have hxn:(x == n)=true:=by simpa using he
     replace he:=Hd he;replace hx:=Hd hx;go_wp2;go_roundw
     case rel=>exact ⟨k+1,by go_num,hlt,by rw [HH.out.2],Hd (by rw [HH.out.1];exact HL.out),HB⟩
     case measure=>simp [intOf];omega
   ·have HH:=Hd (wout_ne (hm.out ▸ hlt) (fun e=>he (hx.trans e)))
    have hxn:(x == n)=false:=by simpa using he
    rw [← hx] at HH;replace he:=Hd he;replace hx:=Hd hx
    go_wp2_with (at_builtin;refine wpList_app1 (n:=x) rfl _ _ rfl (IntsAt.same HL.out ?_) (by rfl) (by rfl) ?_ hwl ?_)
    ·exact (by (repeat (first | with_reducible exact Ch.refl _ _ | (with_reducible refine Ch.alloc ?_ _) | (with_reducible refine Ch.drew ?_) | (with_reducible refine Ch.drewN ?_ _))))
    ·exact cell_at1 _ _ rfl
    ·intro v' w1 h1 hc1
     replace h1:=Hd (h1.mono (New.plus (w:=w) (by simp;omega)))
     replace hc1:=Hd (New.below HB.out ((show Ch (New w) wr _ from (by (repeat (first | with_reducible exact Ch.refl _ _ | (with_reducible refine Ch.alloc ?_ _) | (with_reducible refine Ch.drew ?_) | (with_reducible refine Ch.drewN ?_ _))))).trans hc1))
     clear HL HB;go_wp2;go_roundw
     case rel=>exact ⟨k+1,by go_num,hlt,by rw [HH.out.2],Hd (by rw [HH.out.1];exact h1.out),hc1⟩
     case measure=>simp [intOf];omega
  ·have:k=m:=by omega
   subst this
   have e1:wout l n k=l.erase n:=by unfold wout;rw [hm.out,List.take_length]
   have e2:whad l n k=l.contains n:=by unfold whad;rw [hm.out,List.take_length]
   rw [e1] at HL;rw [e2];go_wp2;go_returns
   exact ⟨⟨_,rfl,HL.out⟩,HB.out⟩
end Go.Proofs.YtiocbpabbjgkhaaGreatDoor
