/- Part 25 of the proof: contracts and plain laws, each under the conditions that it names. -/
import Derived.Test.YtiocbpabbjgkhaaGreatDoorWak24
import Derived.Deep.Cut
set_option maxRecDepth 100000
set_option maxHeartbeats 20000000
set_option linter.unusedVariables false
set_option linter.unusedSimpArgs false
namespace Go.Proofs.YtiocbpabbjgkhaaGreatDoor
open Go.RowKit Go.Proofs.Tryz
variable {w w' : World} {F : Nat → Prop} {p : Nat} {f : KF} {k : K}
theorem new_no (w:World) (cpus:Int) (h:cpus < 1∨64 < cpus):Calls prog 7 #[.int .i64 cpus] w fun e w'=>e=.returned (.tuple #[.pointer none,.int .i64 2])∧w=w':=by
 by_cases h1:cpus < 1
 ·go_enter func7,ntmps7
  go_wp2;go_returns
  exact ⟨rfl,rfl⟩
 ·have h2:64 < cpus:=by omega
  clear h
  go_enter func7,ntmps7
  go_wp2;go_returns
  exact ⟨rfl,rfl⟩
theorem Blk.keep {b:Nat} {v:Array Value} {t:TypeId} (h:Blk w b v t) (hb:Below w.heap.size w w'):Blk w' b v t:=h.ch (Ch.off hb) (fun h=>h)
theorem new_any (w:World) (cpus:Nat) (hc1:1≤cpus) (h64:cpus≤64) (hT:Tab w) (hw2:2 < w.heap.size):Calls prog 7 #[.int .i64 cpus] w fun e w'=>(∃ p f,e=.returned (.tuple #[.pointer (some ⟨p,0,none⟩),.int .i64 0])∧KAt w' (Plus w w' (fun _=>False)) p f (kNew cpus))∧Below w.heap.size w w':=by
 have hmm:=@run_makeMap prog
 have U:=Hd (upto_any cpus w)
 have g1:¬ ((cpus:Int) < 1):=by omega
 have g2:¬ (64 < (cpus:Int)):=by omega
 go_enter func7,ntmps7
 go_wp2_with fail;refine U.out.mono ?_;rintro e w1 ⟨rfl,rfl⟩;clear U
 obtain ⟨V0,hV0⟩:∃ V0,V0=(w.alloc (.map #[] 0)).alloc (.cells #[.pointer none,.pointer none,.pointer none,.pointer none,.pointer none,.pointer none,.pointer none,.pointer none,.pointer none,.pointer none,.pointer none,.pointer none,.pointer none,.pointer none,.slice none 0 0,.int .i64 cpus,.int .u64 (uptoF cpus:Nat),.int .u64 (uptoF cpus:Nat),.int .i64 0,.int .i64 1073741824,.map (some w.heap.size)] 104):=⟨_,rfl⟩
 have hs0:V0.heap.size=w.heap.size+2:=by rw [hV0];simp
 have HM:Hid (IMapAt V0 w.heap.size []):=Hd (by rw [hV0];exact MapAt.ch (MapAt.new w) ((Ch.refl (fun _=>False) _).alloc _) (fun h=>h))
 have HP:Hid (Blk V0 (w.heap.size+1) #[.pointer none,.pointer none,.pointer none,.pointer none,.pointer none,.pointer none,.pointer none,.pointer none,.pointer none,.pointer none,.pointer none,.pointer none,.pointer none,.pointer none,.slice none 0 0,.int .i64 cpus,.int .u64 (uptoF cpus:Nat),.int .u64 (uptoF cpus:Nat),.int .i64 0,.int .i64 1073741824,.map (some w.heap.size)] 104):=Hd (by rw [hV0];exact Blk.at _ _ (by simp))
 have HB:Hid (Below w.heap.size w V0):=Hd (by rw [hV0];exact ((Below.refl _ _).alloc (Nat.le_refl _) _).alloc (by simp) _)
 replace hV0:=Hd hV0;replace hs0:=Hd hs0
 have A:=Hd (tnew_any V0 (cpus:Int) (by omega) (by omega))
 go_wp2_with fail;rw [← hV0.out];refine A.out.mono ?_;rintro e w0 ⟨⟨x0,rfl,h0⟩,b0⟩;replace h0:=Hd h0;replace b0:=Hd b0;replace HP:=Hd (HP.out.keep b0.out)
 have C0:=Hd (Ch.of_below (F:=fun b=>b=w.heap.size+1) b0.out)
 clear A;go_wp2_with fail;refine (need49 w0 x0).mono ?_;rintro e w' ⟨rfl,rfl⟩;have A:=Hd (runq_new w0 cpus hc1 h64);go_wp2_with fail;refine A.out.mono ?_;rintro e w1 ⟨⟨x1,rfl,h1⟩,b1⟩;replace h1:=Hd h1;replace b1:=Hd b1;replace HP:=Hd (HP.out.keep b1.out)
 have C1:=Hd (Ch.of_below (F:=fun b=>b=w.heap.size+1) b1.out)
 clear A;go_wp2_with fail;refine (need51 w1 x1).mono ?_;rintro e w' ⟨rfl,rfl⟩;have y1:=HP.out.cell 0;have y2:=HP.out.cell 1
 have fr:=fun o=>HP.out.frozen o
 obtain ⟨V1,hV1⟩:∃ V,V=(w1.setCell ⟨w.heap.size+1,0,none⟩ (.pointer (some ⟨x0,0,none⟩))).setCell ⟨w.heap.size+1,1,none⟩ (.pointer (some ⟨x1,0,none⟩)):=⟨_,rfl⟩
 have CV1:Hid (Ch (fun b=>b=w.heap.size+1) w1 V1):=Hd (by rw [hV1];exact ((Ch.refl (fun b=>b=w.heap.size+1) _).setCell (p:=⟨w.heap.size+1,0,none⟩) (fun _=>rfl) _).setCell (p:=⟨w.heap.size+1,1,none⟩) (fun _=>rfl) _)
 have sV1:V1.heap.size=w1.heap.size:=by rw [hV1];simp
 have HQ:Blk V1 (w.heap.size+1) #[.pointer (some ⟨x0,0,none⟩),.pointer (some ⟨x1,0,none⟩),.pointer none,.pointer none,.pointer none,.pointer none,.pointer none,.pointer none,.pointer none,.pointer none,.pointer none,.pointer none,.pointer none,.pointer none,.slice none 0 0,.int .i64 cpus,.int .u64 (uptoF cpus:Nat),.int .u64 (uptoF cpus:Nat),.int .i64 0,.int .i64 1073741824,.map (some w.heap.size)] 104:=by rw [hV1];exact (HP.out.set 0 _).set 1 _
 replace HP:=Hd HQ;replace hV1:=Hd hV1;replace sV1:=Hd sV1;clear HQ;have A:=Hd (timer_new V1 cpus hc1 h64);go_wp2_with fail;clear y1 y2 fr;rw [← hV1.out];refine A.out.mono ?_;rintro e w2 ⟨⟨x2,rfl,h2⟩,b2⟩;replace h2:=Hd h2;replace b2:=Hd b2;replace HP:=Hd (HP.out.keep b2.out)
 have C2:=Hd (Ch.of_below (F:=fun b=>b=w.heap.size+1) b2.out)
 clear A;go_wp2_with fail;refine (need53 w2 x2).mono ?_;rintro e w' ⟨rfl,rfl⟩;have A:=Hd (inew_any w2 cpus hc1 h64);go_wp2_with fail;refine A.out.mono ?_;rintro e w3 ⟨⟨x3,rfl,h3⟩,b3⟩;replace h3:=Hd h3;replace b3:=Hd b3;replace HP:=Hd (HP.out.keep b3.out)
 have C3:=Hd (Ch.of_below (F:=fun b=>b=w.heap.size+1) b3.out)
 clear A;go_wp2_with fail;refine (need55 w3 x3).mono ?_;rintro e w' ⟨rfl,rfl⟩;have y1:=HP.out.cell 2;have y2:=HP.out.cell 3
 have fr:=fun o=>HP.out.frozen o
 obtain ⟨V2,hV2⟩:∃ V,V=(w3.setCell ⟨w.heap.size+1,2,none⟩ (.pointer (some ⟨x2,0,none⟩))).setCell ⟨w.heap.size+1,3,none⟩ (.pointer (some ⟨x3,0,none⟩)):=⟨_,rfl⟩
 have CV2:Hid (Ch (fun b=>b=w.heap.size+1) w3 V2):=Hd (by rw [hV2];exact ((Ch.refl (fun b=>b=w.heap.size+1) _).setCell (p:=⟨w.heap.size+1,2,none⟩) (fun _=>rfl) _).setCell (p:=⟨w.heap.size+1,3,none⟩) (fun _=>rfl) _)
 have sV2:V2.heap.size=w3.heap.size:=by rw [hV2];simp
 have HQ:Blk V2 (w.heap.size+1) #[.pointer (some ⟨x0,0,none⟩),.pointer (some ⟨x1,0,none⟩),.pointer (some ⟨x2,0,none⟩),.pointer (some ⟨x3,0,none⟩),.pointer none,.pointer none,.pointer none,.pointer none,.pointer none,.pointer none,.pointer none,.pointer none,.pointer none,.pointer none,.slice none 0 0,.int .i64 cpus,.int .u64 (uptoF cpus:Nat),.int .u64 (uptoF cpus:Nat),.int .i64 0,.int .i64 1073741824,.map (some w.heap.size)] 104:=by rw [hV2];exact (HP.out.set 2 _).set 3 _
 replace HP:=Hd HQ;replace hV2:=Hd hV2;replace sV2:=Hd sV2;clear HQ;have A:=Hd (onew_any V2 cpus hc1 h64);go_wp2_with fail;clear y1 y2 fr;rw [← hV2.out];refine A.out.mono ?_;rintro e w4 ⟨⟨x4,rfl,h4⟩,b4⟩;replace h4:=Hd h4;replace b4:=Hd b4;replace HP:=Hd (HP.out.keep b4.out)
 have C4:=Hd (Ch.of_below (F:=fun b=>b=w.heap.size+1) b4.out)
 clear A;go_wp2_with fail;refine (need57 w4 x4).mono ?_;rintro e w' ⟨rfl,rfl⟩;have A:=Hd (work_new w4 cpus hc1 h64);go_wp2_with fail;refine A.out.mono ?_;rintro e w5 ⟨⟨x5,rfl,h5⟩,b5⟩;replace h5:=Hd h5;replace b5:=Hd b5;replace HP:=Hd (HP.out.keep b5.out)
 have C5:=Hd (Ch.of_below (F:=fun b=>b=w.heap.size+1) b5.out)
 clear A;go_wp2_with fail;refine (need59 w5 x5).mono ?_;rintro e w' ⟨rfl,rfl⟩;have y1:=HP.out.cell 4;have y2:=HP.out.cell 5
 have fr:=fun o=>HP.out.frozen o
 obtain ⟨V3,hV3⟩:∃ V,V=(w5.setCell ⟨w.heap.size+1,4,none⟩ (.pointer (some ⟨x4,0,none⟩))).setCell ⟨w.heap.size+1,5,none⟩ (.pointer (some ⟨x5,0,none⟩)):=⟨_,rfl⟩
 have CV3:Hid (Ch (fun b=>b=w.heap.size+1) w5 V3):=Hd (by rw [hV3];exact ((Ch.refl (fun b=>b=w.heap.size+1) _).setCell (p:=⟨w.heap.size+1,4,none⟩) (fun _=>rfl) _).setCell (p:=⟨w.heap.size+1,5,none⟩) (fun _=>rfl) _)
 have sV3:V3.heap.size=w5.heap.size:=by rw [hV3];simp
 have HQ:Blk V3 (w.heap.size+1) #[.pointer (some ⟨x0,0,none⟩),.pointer (some ⟨x1,0,none⟩),.pointer (some ⟨x2,0,none⟩),.pointer (some ⟨x3,0,none⟩),.pointer (some ⟨x4,0,none⟩),.pointer (some ⟨x5,0,none⟩),.pointer none,.pointer none,.pointer none,.pointer none,.pointer none,.pointer none,.pointer none,.pointer none,.slice none 0 0,.int .i64 cpus,.int .u64 (uptoF cpus:Nat),.int .u64 (uptoF cpus:Nat),.int .i64 0,.int .i64 1073741824,.map (some w.heap.size)] 104:=by rw [hV3];exact (HP.out.set 4 _).set 5 _
 replace HP:=Hd HQ;replace hV3:=Hd hV3;replace sV3:=Hd sV3;clear HQ;have A:=Hd (box_new V3 cpus hc1 h64);go_wp2_with fail;clear y1 y2 fr;rw [← hV3.out];refine A.out.mono ?_;rintro e w6 ⟨⟨x6,rfl,h6⟩,b6⟩;replace h6:=Hd h6;replace b6:=Hd b6;replace HP:=Hd (HP.out.keep b6.out)
 have C6:=Hd (Ch.of_below (F:=fun b=>b=w.heap.size+1) b6.out)
 clear A;go_wp2_with fail;refine (need61 w6 x6).mono ?_;rintro e w' ⟨rfl,rfl⟩;have A:=Hd (hnew_any w6 cpus hc1 h64);go_wp2_with fail;refine A.out.mono ?_;rintro e w7 ⟨⟨x7,rfl,h7⟩,b7⟩;replace h7:=Hd h7;replace b7:=Hd b7;replace HP:=Hd (HP.out.keep b7.out)
 have C7:=Hd (Ch.of_below (F:=fun b=>b=w.heap.size+1) b7.out)
 clear A;go_wp2_with fail;refine (need63 w7 x7).mono ?_;rintro e w' ⟨rfl,rfl⟩;have y1:=HP.out.cell 6;have y2:=HP.out.cell 7
 have fr:=fun o=>HP.out.frozen o
 obtain ⟨V4,hV4⟩:∃ V,V=(w7.setCell ⟨w.heap.size+1,6,none⟩ (.pointer (some ⟨x6,0,none⟩))).setCell ⟨w.heap.size+1,7,none⟩ (.pointer (some ⟨x7,0,none⟩)):=⟨_,rfl⟩
 have CV4:Hid (Ch (fun b=>b=w.heap.size+1) w7 V4):=Hd (by rw [hV4];exact ((Ch.refl (fun b=>b=w.heap.size+1) _).setCell (p:=⟨w.heap.size+1,6,none⟩) (fun _=>rfl) _).setCell (p:=⟨w.heap.size+1,7,none⟩) (fun _=>rfl) _)
 have sV4:V4.heap.size=w7.heap.size:=by rw [hV4];simp
 have HQ:Blk V4 (w.heap.size+1) #[.pointer (some ⟨x0,0,none⟩),.pointer (some ⟨x1,0,none⟩),.pointer (some ⟨x2,0,none⟩),.pointer (some ⟨x3,0,none⟩),.pointer (some ⟨x4,0,none⟩),.pointer (some ⟨x5,0,none⟩),.pointer (some ⟨x6,0,none⟩),.pointer (some ⟨x7,0,none⟩),.pointer none,.pointer none,.pointer none,.pointer none,.pointer none,.pointer none,.slice none 0 0,.int .i64 cpus,.int .u64 (uptoF cpus:Nat),.int .u64 (uptoF cpus:Nat),.int .i64 0,.int .i64 1073741824,.map (some w.heap.size)] 104:=by rw [hV4];exact (HP.out.set 6 _).set 7 _
 replace HP:=Hd HQ;replace hV4:=Hd hV4;replace sV4:=Hd sV4;clear HQ;have A:=Hd (snew_any V4 cpus hc1 h64);go_wp2_with fail;clear y1 y2 fr;rw [← hV4.out];refine A.out.mono ?_;rintro e w8 ⟨⟨x8,rfl,h8⟩,b8⟩;replace h8:=Hd h8;replace b8:=Hd b8;replace HP:=Hd (HP.out.keep b8.out)
 have C8:=Hd (Ch.of_below (F:=fun b=>b=w.heap.size+1) b8.out)
 clear A;go_wp2_with fail;refine (need65 w8 x8).mono ?_;rintro e w' ⟨rfl,rfl⟩;have A:=Hd (gnew_any w8 cpus hc1 h64);go_wp2_with fail;refine A.out.mono ?_;rintro e w9 ⟨⟨x9,rfl,h9⟩,b9⟩;replace h9:=Hd h9;replace b9:=Hd b9;replace HP:=Hd (HP.out.keep b9.out)
 have C9:=Hd (Ch.of_below (F:=fun b=>b=w.heap.size+1) b9.out)
 clear A;go_wp2_with fail;refine (need67 w9 x9).mono ?_;rintro e w' ⟨rfl,rfl⟩;have y1:=HP.out.cell 8;have y2:=HP.out.cell 9
 have fr:=fun o=>HP.out.frozen o
 obtain ⟨V5,hV5⟩:∃ V,V=(w9.setCell ⟨w.heap.size+1,8,none⟩ (.pointer (some ⟨x8,0,none⟩))).setCell ⟨w.heap.size+1,9,none⟩ (.pointer (some ⟨x9,0,none⟩)):=⟨_,rfl⟩
 have CV5:Hid (Ch (fun b=>b=w.heap.size+1) w9 V5):=Hd (by rw [hV5];exact ((Ch.refl (fun b=>b=w.heap.size+1) _).setCell (p:=⟨w.heap.size+1,8,none⟩) (fun _=>rfl) _).setCell (p:=⟨w.heap.size+1,9,none⟩) (fun _=>rfl) _)
 have sV5:V5.heap.size=w9.heap.size:=by rw [hV5];simp
 have HQ:Blk V5 (w.heap.size+1) #[.pointer (some ⟨x0,0,none⟩),.pointer (some ⟨x1,0,none⟩),.pointer (some ⟨x2,0,none⟩),.pointer (some ⟨x3,0,none⟩),.pointer (some ⟨x4,0,none⟩),.pointer (some ⟨x5,0,none⟩),.pointer (some ⟨x6,0,none⟩),.pointer (some ⟨x7,0,none⟩),.pointer (some ⟨x8,0,none⟩),.pointer (some ⟨x9,0,none⟩),.pointer none,.pointer none,.pointer none,.pointer none,.slice none 0 0,.int .i64 cpus,.int .u64 (uptoF cpus:Nat),.int .u64 (uptoF cpus:Nat),.int .i64 0,.int .i64 1073741824,.map (some w.heap.size)] 104:=by rw [hV5];exact (HP.out.set 8 _).set 9 _
 replace HP:=Hd HQ;replace hV5:=Hd hV5;replace sV5:=Hd sV5;clear HQ;have A:=Hd (cnew_any V5 cpus hc1 h64);go_wp2_with fail;clear y1 y2 fr;rw [← hV5.out];refine A.out.mono ?_;rintro e w12 ⟨⟨x12,rfl,h12⟩,b12⟩;replace h12:=Hd h12;replace b12:=Hd b12;replace HP:=Hd (HP.out.keep b12.out)
 have C12:=Hd (Ch.of_below (F:=fun b=>b=w.heap.size+1) b12.out)
 clear A;go_wp2_with fail;refine (need69 w12 x12).mono ?_;rintro e w' ⟨rfl,rfl⟩;have A:=Hd (mnew_any w12 cpus hc1 h64);go_wp2_with fail;refine A.out.mono ?_;rintro e w13 ⟨⟨x13,rfl,h13⟩,b13⟩;replace h13:=Hd h13;replace b13:=Hd b13;replace HP:=Hd (HP.out.keep b13.out)
 have C13:=Hd (Ch.of_below (F:=fun b=>b=w.heap.size+1) b13.out)
 clear A;go_wp2_with fail;refine (need71 w13 x13).mono ?_;rintro e w' ⟨rfl,rfl⟩;have y1:=HP.out.cell 12;have y2:=HP.out.cell 13
 have fr:=fun o=>HP.out.frozen o
 obtain ⟨V6,hV6⟩:∃ V,V=(w13.setCell ⟨w.heap.size+1,12,none⟩ (.pointer (some ⟨x12,0,none⟩))).setCell ⟨w.heap.size+1,13,none⟩ (.pointer (some ⟨x13,0,none⟩)):=⟨_,rfl⟩
 have CV6:Hid (Ch (fun b=>b=w.heap.size+1) w13 V6):=Hd (by rw [hV6];exact ((Ch.refl (fun b=>b=w.heap.size+1) _).setCell (p:=⟨w.heap.size+1,12,none⟩) (fun _=>rfl) _).setCell (p:=⟨w.heap.size+1,13,none⟩) (fun _=>rfl) _)
 have sV6:V6.heap.size=w13.heap.size:=by rw [hV6];simp
 have HQ:Blk V6 (w.heap.size+1) #[.pointer (some ⟨x0,0,none⟩),.pointer (some ⟨x1,0,none⟩),.pointer (some ⟨x2,0,none⟩),.pointer (some ⟨x3,0,none⟩),.pointer (some ⟨x4,0,none⟩),.pointer (some ⟨x5,0,none⟩),.pointer (some ⟨x6,0,none⟩),.pointer (some ⟨x7,0,none⟩),.pointer (some ⟨x8,0,none⟩),.pointer (some ⟨x9,0,none⟩),.pointer none,.pointer none,.pointer (some ⟨x12,0,none⟩),.pointer (some ⟨x13,0,none⟩),.slice none 0 0,.int .i64 cpus,.int .u64 (uptoF cpus:Nat),.int .u64 (uptoF cpus:Nat),.int .i64 0,.int .i64 1073741824,.map (some w.heap.size)] 104:=by rw [hV6];exact (HP.out.set 12 _).set 13 _
 replace HP:=Hd HQ;replace hV6:=Hd hV6;replace sV6:=Hd sV6;clear HQ
 go_upto_region 11 with fail
 clear y1 y2 fr;rw [← hV6.out]
 have y3:=fun o=>(HP.out.alloc o).cell 10
 have y4:=fun o o'=>((HP.out.alloc o).alloc o').cell 11
 have y5:=fun o o'=>((HP.out.alloc o).alloc o').cell 10
 have f3:=fun o j=>(HP.out.alloc o).frozen j
 have f4:=fun o o' j=>((HP.out.alloc o).alloc o').frozen j
 go_upto_region 12 with fail
 clear y3 y4 y5 f3 f4
 obtain ⟨V7,hV7⟩:∃ V,V=(((V6.alloc (.cells #[.int .u64 0,.int .u64 0] 142)).alloc (.cells #[.pointer none,.map none] 146)).setCell ⟨w.heap.size+1,10,none⟩ (.pointer (some ⟨V6.heap.size,0,none⟩))).setCell ⟨w.heap.size+1,11,none⟩ (.pointer (some ⟨V6.heap.size+1,0,none⟩)):=⟨_,rfl⟩
 rw [← hV7];have hpl:=HP.out.lt
 have CV7:Ch (fun b=>b=w.heap.size+1) V6 V7:=by rw [hV7];exact ((((Ch.refl (fun b=>b=w.heap.size+1) _).alloc _).alloc _).setCell (p:=⟨w.heap.size+1,10,none⟩) (fun _=>rfl) _).setCell (p:=⟨w.heap.size+1,11,none⟩) (fun _=>rfl) _
 have sV7:V7.heap.size=V6.heap.size+2:=by rw [hV7];simp
 have HQ:Blk V7 (w.heap.size+1) #[.pointer (some ⟨x0,0,none⟩),.pointer (some ⟨x1,0,none⟩),.pointer (some ⟨x2,0,none⟩),.pointer (some ⟨x3,0,none⟩),.pointer (some ⟨x4,0,none⟩),.pointer (some ⟨x5,0,none⟩),.pointer (some ⟨x6,0,none⟩),.pointer (some ⟨x7,0,none⟩),.pointer (some ⟨x8,0,none⟩),.pointer (some ⟨x9,0,none⟩),.pointer (some ⟨V6.heap.size,0,none⟩),.pointer (some ⟨(V6.heap.size+1),0,none⟩),.pointer (some ⟨x12,0,none⟩),.pointer (some ⟨x13,0,none⟩),.slice none 0 0,.int .i64 cpus,.int .u64 (uptoF cpus:Nat),.int .u64 (uptoF cpus:Nat),.int .i64 0,.int .i64 1073741824,.map (some w.heap.size)] 104:=by rw [hV7];exact (((HP.out.alloc _).alloc _).set 10 _).set 11 _
 have hne:V6.heap.size≠w.heap.size+1:=by omega
 have hne2:V6.heap.size+1≠w.heap.size+1:=by omega
 have k10:Blk V7 V6.heap.size #[.int .u64 0,.int .u64 0] 142:=by rw [hV7];exact ((((Blk.new V6 _ _).alloc _).ch ((Ch.refl (fun b=>b=w.heap.size+1) _).setCell (p:=⟨w.heap.size+1,10,none⟩) (fun _=>rfl) _) hne).ch ((Ch.refl (fun b=>b=w.heap.size+1) _).setCell (p:=⟨w.heap.size+1,11,none⟩) (fun _=>rfl) _) hne)
 have k11:Blk V7 (V6.heap.size+1) #[.pointer none,.map none] 146:=by rw [hV7];exact (((Blk.at (w:=V6.alloc (.cells #[.int .u64 0,.int .u64 0] 142)) _ _ (by simp)).ch ((Ch.refl (fun b=>b=w.heap.size+1) _).setCell (p:=⟨w.heap.size+1,10,none⟩) (fun _=>rfl) _) hne2).ch ((Ch.refl (fun b=>b=w.heap.size+1) _).setCell (p:=⟨w.heap.size+1,11,none⟩) (fun _=>rfl) _) hne2)
 have Dw13:Ch (fun b=>b=w.heap.size+1) w13 V7:=CV6.out.trans CV7
 have Dw12:Ch (fun b=>b=w.heap.size+1) w12 V7:=C13.out.trans Dw13
 have DV5:Ch (fun b=>b=w.heap.size+1) V5 V7:=C12.out.trans Dw12
 have Dw9:Ch (fun b=>b=w.heap.size+1) w9 V7:=CV5.out.trans DV5
 have Dw8:Ch (fun b=>b=w.heap.size+1) w8 V7:=C9.out.trans Dw9
 have DV4:Ch (fun b=>b=w.heap.size+1) V4 V7:=C8.out.trans Dw8
 have Dw7:Ch (fun b=>b=w.heap.size+1) w7 V7:=CV4.out.trans DV4
 have Dw6:Ch (fun b=>b=w.heap.size+1) w6 V7:=C7.out.trans Dw7
 have DV3:Ch (fun b=>b=w.heap.size+1) V3 V7:=C6.out.trans Dw6
 have Dw5:Ch (fun b=>b=w.heap.size+1) w5 V7:=CV3.out.trans DV3
 have Dw4:Ch (fun b=>b=w.heap.size+1) w4 V7:=C5.out.trans Dw5
 have DV2:Ch (fun b=>b=w.heap.size+1) V2 V7:=C4.out.trans Dw4
 have Dw3:Ch (fun b=>b=w.heap.size+1) w3 V7:=CV2.out.trans DV2
 have Dw2:Ch (fun b=>b=w.heap.size+1) w2 V7:=C3.out.trans Dw3
 have DV1:Ch (fun b=>b=w.heap.size+1) V1 V7:=C2.out.trans Dw2
 have Dw1:Ch (fun b=>b=w.heap.size+1) w1 V7:=CV1.out.trans DV1
 have Dw0:Ch (fun b=>b=w.heap.size+1) w0 V7:=C1.out.trans Dw1
 have DV0:Ch (fun b=>b=w.heap.size+1) V0 V7:=C0.out.trans Dw0
 have z0:=hs0.out;have z0':=b0.out.size;have z1':=b1.out.size;have z2':=b2.out.size;have z3':=b3.out.size;have z4':=b4.out.size;have z5':=b5.out.size;have z6':=b6.out.size;have z7':=b7.out.size;have z8':=b8.out.size;have z9':=b9.out.size;have z12':=b12.out.size;have z13':=b13.out.size;have t1:=sV1.out;have t2:=sV2.out;have t3:=sV3.out;have t4:=sV4.out;have t5:=sV5.out;have t6:=sV6.out
 obtain ⟨pt,hpt⟩:∃ pt:Nat→Nat,pt=fun i=>[x0,x1,x2,x3,x4,x5,x6,x7,x8,x9,V6.heap.size,(V6.heap.size+1),x12,x13].getD i 0:=⟨_,rfl⟩
 have q0:pt 0=x0:=by rw [hpt];rfl
 have q1:pt 1=x1:=by rw [hpt];rfl
 have q2:pt 2=x2:=by rw [hpt];rfl
 have q3:pt 3=x3:=by rw [hpt];rfl
 have q4:pt 4=x4:=by rw [hpt];rfl
 have q5:pt 5=x5:=by rw [hpt];rfl
 have q6:pt 6=x6:=by rw [hpt];rfl
 have q7:pt 7=x7:=by rw [hpt];rfl
 have q8:pt 8=x8:=by rw [hpt];rfl
 have q9:pt 9=x9:=by rw [hpt];rfl
 have q10:pt 10=V6.heap.size:=by rw [hpt];rfl
 have q11:pt 11=(V6.heap.size+1):=by rw [hpt];rfl
 have q12:pt 12=x12:=by rw [hpt];rfl
 have q13:pt 13=x13:=by rw [hpt];rfl
 have e0:=h0.out;rw [← q0] at e0;have e1:=h1.out;rw [← q1] at e1;have e2:=h2.out;rw [← q2] at e2;have e3:=h3.out;rw [← q3] at e3;have e4:=h4.out;rw [← q4] at e4;have e5:=h5.out;rw [← q5] at e5;have e6:=h6.out;rw [← q6] at e6;have e7:=h7.out;rw [← q7] at e7;have e8:=h8.out;rw [← q8] at e8;have e9:=h9.out;rw [← q9] at e9;have e12:=h12.out;rw [← q12] at e12;have e13:=h13.out;rw [← q13] at e13
 have HN:NewAt pt w.heap.size cpus V7 (fun b=>b=w.heap.size∨(V0.heap.size≤b∧b < V6.heap.size+2)):=by
  refine NewAt.of (a0:=V0.heap.size) (a1:=w0.heap.size) (a2:=w1.heap.size) (a3:=w2.heap.size) (a4:=w3.heap.size) (a5:=w4.heap.size) (a6:=w5.heap.size) (a7:=w6.heap.size) (a8:=w7.heap.size) (a9:=w8.heap.size) (a10:=w9.heap.size) (a11:=w12.heap.size) (a12:=w13.heap.size) (a13:=V6.heap.size+1) (a14:=V6.heap.size+2) (by omega) (by omega) (by omega) (by omega) (by omega) (by omega) (by omega) (by omega) (by omega) (by omega) (by omega) (by omega) (by omega) (by omega) (by omega) (fun b=>Iff.rfl) (by omega) (HM.out.ch DV0 (by omega)) ?h0 ?h1 ?h2 ?h3 ?h4 ?h5 ?h6 ?h7 ?h8 ?h9 ?h10 ?h11 ?h12 ?h13
  case h0=>exact own_th.mono (own_th.ch e0 Dw0 (fun b hb e=>hb.elim (fun e=>e) (fun h=>by have e:b=w.heap.size+1:=e;omega))) (fun b hb=>hb.elim (fun e=>e.elim) (fun h=>by omega)) (fun b hb=>by omega)
  case h1=>exact own_qs.mono (own_qs.ch e1 Dw1 (fun b hb e=>hb.elim (fun e=>e) (fun h=>by have e:b=w.heap.size+1:=e;omega))) (fun b hb=>hb.elim (fun e=>e.elim) (fun h=>by omega)) (fun b hb=>by omega)
  case h2=>exact own_tm.mono (own_tm.ch e2 Dw2 (fun b hb e=>hb.elim (fun e=>e) (fun h=>by have e:b=w.heap.size+1:=e;omega))) (fun b hb=>hb.elim (fun e=>e.elim) (fun h=>by omega)) (fun b hb=>by omega)
  case h3=>exact own_iq.mono (own_iq.ch e3 Dw3 (fun b hb e=>hb.elim (fun e=>e) (fun h=>by have e:b=w.heap.size+1:=e;omega))) (fun b hb=>hb.elim (fun e=>e.elim) (fun h=>by omega)) (fun b hb=>by omega)
  case h4=>exact own_rt.mono (own_rt.ch e4 Dw4 (fun b hb e=>hb.elim (fun e=>e) (fun h=>by have e:b=w.heap.size+1:=e;omega))) (fun b hb=>hb.elim (fun e=>e.elim) (fun h=>by omega)) (fun b hb=>by omega)
  case h5=>exact own_wk.mono (own_wk.ch e5 Dw5 (fun b hb e=>hb.elim (fun e=>e) (fun h=>by have e:b=w.heap.size+1:=e;omega))) (fun b hb=>hb.elim (fun e=>e.elim) (fun h=>by omega)) (fun b hb=>by omega)
  case h6=>exact own_cl.mono (own_cl.ch e6 Dw6 (fun b hb e=>hb.elim (fun e=>e) (fun h=>by have e:b=w.heap.size+1:=e;omega))) (fun b hb=>hb.elim (fun e=>e.elim) (fun h=>by omega)) (fun b hb=>by omega)
  case h7=>exact own_ob.mono (own_ob.ch e7 Dw7 (fun b hb e=>hb.elim (fun e=>e) (fun h=>by have e:b=w.heap.size+1:=e;omega))) (fun b hb=>hb.elim (fun e=>e.elim) (fun h=>by omega)) (fun b hb=>by omega)
  case h8=>exact own_ct.mono (own_ct.ch e8 Dw8 (fun b hb e=>hb.elim (fun e=>e) (fun h=>by have e:b=w.heap.size+1:=e;omega))) (fun b hb=>hb.elim (fun e=>e.elim) (fun h=>by omega)) (fun b hb=>by omega)
  case h9=>exact own_gt.mono (own_gt.ch e9 Dw9 (fun b hb e=>hb.elim (fun e=>e) (fun h=>by have e:b=w.heap.size+1:=e;omega))) (fun b hb=>hb.elim (fun e=>e.elim) (fun h=>by omega)) (fun b hb=>by omega)
  case h10=>exact ⟨by rw [q10];exact k10,by rw [q10];exact ⟨by omega,by omega⟩,by decide,by decide⟩
  case h11=>exact ⟨.pointer none,.map none,fun _=>0,by rw [q11];exact k11,by rw [q11];exact ⟨⟨by omega,by omega⟩,rfl⟩,rfl,rfl,fun b hb=>by omega⟩
  case h12=>exact own_co.mono (own_co.ch e12 Dw12 (fun b hb e=>hb.elim (fun e=>e) (fun h=>by have e:b=w.heap.size+1:=e;omega))) (fun b hb=>hb.elim (fun e=>e.elim) (fun h=>by omega)) (fun b hb=>by omega)
  case h13=>exact own_mt.mono (own_mt.ch e13 Dw13 (fun b hb e=>hb.elim (fun e=>e) (fun h=>by have e:b=w.heap.size+1:=e;omega))) (fun b hb=>hb.elim (fun e=>e.elim) (fun h=>by omega)) (fun b hb=>by omega)
 have H0:NewPart pt w.heap.size cpus w V7 (w.heap.size+1) 0 (.slice none 0 0) (fun _=>0) (fun b=>if b=w.heap.size+1 then 3 else 0):=by
  refine ⟨?_,RowAt.nil _ _ _ _,(new_keeps _ _ _).mono HN (fun b hb=>⟨.inr ⟨by omega,by omega⟩,?_⟩) (fun b hb=>plus0_lt b hb.1),⟨.inr ⟨by omega,by omega⟩,by simp⟩,fun i hi=>by omega,?_⟩
  ·unfold newHd kCells
   rw [q0,q1,q2,q3,q4,q5,q6,q7,q8,q9,q10,q11,q12,q13]
   exact HQ
  ·have:b≠w.heap.size+1:=by omega
   simp [this]
  ·have hb:=HB.out
   exact ⟨DV0.os.trans hb.os,DV0.tape.trans hb.tape,DV0.output.trans hb.output,by omega,fun b h=>(DV0.block b (by omega) (fun e=>by have e:b=w.heap.size+1:=e;omega)).trans (hb.block b h)⟩
 clear HN HQ k10 k11 hpt hne hne2 CV7 sV7 hpl HM HP HB hs0 z0 hV7 hV0 q0 q1 q2 q3 q4 q5 q6 q7 q8 q9 q10 q11 q12 q13 t1 sV1 hV1 CV1 t2 sV2 hV2 CV2 t3 sV3 hV3 CV3 t4 sV4 hV4 CV4 t5 sV5 hV5 CV5 t6 sV6 hV6 CV6 h0 b0 C0 z0' Dw0 e0 h1 b1 C1 z1' Dw1 e1 h2 b2 C2 z2' Dw2 e2 h3 b3 C3 z3' Dw3 e3 h4 b4 C4 z4' Dw4 e4 h5 b5 C5 z5' Dw5 e5 h6 b6 C6 z6' Dw6 e6 h7 b7 C7 z7' Dw7 e7 h8 b8 C8 z8' Dw8 e8 h9 b9 C9 z9' Dw9 e9 h12 b12 C12 z12' Dw12 e12 h13 b13 C13 z13' Dw13 e13 DV0 DV1 DV2 DV3 DV4 DV5;replace H0:=Hd H0;have hTT:=Hd hT;go_wp2_with fail
 go_loopw [141] (fun iv wr=>∃ k:Nat,iv=.int .i64 k∧k≤cpus∧∃ rv ptrs c,Hid (NewPart pt w.heap.size cpus w wr (w.heap.size+1) k rv ptrs c)) (fun iv _=>cpus - (intOf iv).toNat)
 case atStart=>exact ⟨0,rfl,by omega,_,_,_,H0⟩
 case round =>
  clear H0 hmm;obtain ⟨k,rfl,hk,rv,ptrs,c,H⟩:=hrel
  by_cases hlt:k < cpus
  ·have A:Calls prog 74 #[.int .i64 100,.int .i64 1000] wr.drew fun e w'=>(∃ p,e=.returned (.tuple #[.pointer (some ⟨p,0,none⟩),.int .i64 0])∧GovAt w' (Plus wr w' (fun _=>False)) p (100,1000))∧Below wr.heap.size wr.drew w':=vnew_any wr.drew 100 1000 (by decide)
   replace A:=Hd A
   have c0:wr.cell? ⟨w.heap.size+1,14,none⟩=some rv:=H.out.head.cell 14
   obtain ⟨base,cap,rfl⟩:=H.out.row.form
   go_upto_region 14 with fail
   refine wp_region_late (S:=fun w'=>w'.cell? ⟨w.heap.size+1,14,none⟩=some (.slice base k cap)) (late:=[15]) (by kernel_rfl) ?_
   have hHeld:wr.drew.cell? ⟨w.heap.size+1,14,none⟩=some (.slice base k cap):=c0
   refine wpLate.take0 (i:=0) (oi:=?_) (v:=?_) ?_ (by kernel_rfl) (by kernel_rfl) (by kernel_rfl) (by kernel_rfl) ?_ (Or.inl ⟨?_,?_⟩) (fun _=>hHeld) ?_
   rotate_left 2
   ·simp only [sD,sE,sF];rfl
   ·exact fun _ _ _ h=>h
   ·rfl
   ·intro w' hSw;clear hSw;go_simp;(try with_reducible rfl)
   (try simp only [Act.put,sA,sB,sC])
   refine wpLate.take0 (i:=1) (oi:=?_) (v:=?_) ?_ (by kernel_rfl) (by kernel_rfl) (by kernel_rfl) (by kernel_rfl) ?_ (Or.inl ⟨?_,?_⟩) (fun _=>hHeld) ?_
   rotate_left 2
   ·simp only [sD,sE,sF];rfl
   ·exact fun _ _ _ h=>h
   ·rfl
   ·intro w' hSw;clear hSw;go_simp;(try with_reducible rfl)
   (try simp only [Act.put,sA,sB,sC])
   refine wpLate.take0 (i:=2) (oi:=?_) (v:=?_) ?_ (by kernel_rfl) (by kernel_rfl) (by kernel_rfl) (by kernel_rfl) ?_ (Or.inl ⟨?_,?_⟩) (fun _=>hHeld) ?_
   rotate_left 2
   ·simp only [sD,sE,sF];rfl
   ·exact fun _ _ _ h=>h
   ·rfl
   ·intro w' hSw;clear hSw;go_simp;(try with_reducible rfl)
   (try simp only [Act.put,sA,sB,sC])
   refine wpLate.take0 (i:=3) (oi:=?_) (v:=?_) ?_ (by kernel_rfl) (by kernel_rfl) (by kernel_rfl) (by kernel_rfl) ?_ (Or.inl ⟨?_,?_⟩) (fun _=>hHeld) ?_
   rotate_left 2
   ·simp only [sD,sE,sF];rfl
   ·exact fun _ _ _ h=>h
   ·rfl
   ·intro w' hSw;clear hSw;go_simp;(try with_reducible rfl)
   (try simp only [Act.put,sA,sB,sC])
   refine wpLate.take0 (i:=4) (oi:=?_) (v:=?_) ?_ (by kernel_rfl) (by kernel_rfl) (by kernel_rfl) (by kernel_rfl) ?_ (Or.inl ⟨?_,?_⟩) (fun _=>hHeld) ?_
   rotate_left 2
   ·simp only [sD,sE,sF];rfl
   ·exact fun _ _ _ h=>h
   ·rfl
   ·intro w' hSw;clear hSw;go_simp;(try with_reducible rfl)
   (try simp only [Act.put,sA,sB,sC])
   refine wpLate.take1 (i:=5) (oi:=?_) (v:=?_) ?_ (by kernel_rfl) (by kernel_rfl) (by kernel_rfl) (by kernel_rfl) (by kernel_rfl) (by kernel_rfl) ?_ (Or.inl ⟨?_,?_⟩) hHeld ?_
   rotate_left 2
   ·simp only [sD,sE,sF];rfl
   ·exact fun _ _ _ h=>h
   ·rfl
   ·intro w' hSw;(try dsimp only at hSw);go_simp;(try with_reducible rfl)
   (try simp only [Act.put,sA,sB,sC])
   refine wpLate.one (i:=6) (o:=?_) (by kernel_rfl) ?_ (fun K hK=>?_)
   rotate_left 1
   ·simp only [sD,sE,sF];rfl
   go_simp
   (refine A.out.mono ?_;rintro e w2 ⟨⟨x,rfl,hx⟩,hb0⟩;have hb:Below wr.heap.size wr w2:=(Below.refl _ wr).drew.trans hb0;clear hb0;replace hx:=Hd hx;replace hb:=Hd hb)
   have hHeld:=keepcell hb.out c0
   refine hK.out _ _ (fun _=>hHeld) ?_
   clear hK K
   (try simp only [Act.put,sA,sB,sC])
   have hz:=Hd (H.out.head.keep hb.out)
   refine wpLate.take0 (i:=7) (oi:=?_) (v:=?_) ?_ (by kernel_rfl) (by kernel_rfl) (by kernel_rfl) (by kernel_rfl) ?_ (Or.inl ⟨?_,?_⟩) (fun _=>hHeld) ?_
   rotate_left 2
   ·simp only [sD,sE,sF];rfl
   ·exact fun _ _ _ h=>h
   ·rfl
   ·intro w' hSw;clear hSw;go_simp;(try with_reducible rfl)
   (try simp only [Act.put,sA,sB,sC])
   refine wpLate.take0 (i:=8) (oi:=?_) (v:=?_) ?_ (by kernel_rfl) (by kernel_rfl) (by kernel_rfl) (by kernel_rfl) ?_ (Or.inl ⟨?_,?_⟩) (fun _=>hHeld) ?_
   rotate_left 2
   ·simp only [sD,sE,sF];rfl
   ·exact fun _ _ _ h=>h
   ·rfl
   ·intro w' hSw;clear hSw;go_simp;(try with_reducible rfl)
   (try simp only [Act.put,sA,sB,sC])
   refine wpLate.one (i:=9) (o:=?_) (by kernel_rfl) ?_ (fun K hK=>?_)
   rotate_left 1
   ·simp only [sD,sE,sF];rfl
   go_simp
   (refine (need73 _ _).mono ?_;rintro e w4 ⟨rfl,rfl⟩)
   have hHeld:=keepcell hb.out c0
   refine hK.out _ _ (fun _=>hHeld) ?_
   clear hK K
   (try simp only [Act.put,sA,sB,sC])
   refine wpLate.one (i:=10) (o:=?_) (by kernel_rfl) ?_ (fun K hK=>?_)
   rotate_left 1
   ·simp only [sD,sE,sF];rfl
   go_simp
   have hHeld:=((hz.out.alloc (.cells #[.pointer (some ⟨x,0,none⟩)] 47)).cell 14)
   refine hK.out _ _ (fun _=>hHeld) ?_
   clear hK K
   (try simp only [Act.put,sA,sB,sC])
   have hrow:=Hd (RowAt.ch H.out.row ((Ch.off hb.out).alloc (.cells #[.pointer (some ⟨x,0,none⟩)] 47)) (fun _ _ h=>h))
   refine wpLate.one (i:=11) (o:=?_) (by kernel_rfl) ?_ (fun K hK=>?_)
   rotate_left 1
   ·simp only [List.getElem?_toArray,List.getElem?_cons_zero,List.getElem?_cons_succ];rfl
   refine step_appG rfl _ _ rfl hrow.out rfl rfl (cell_at1 _ _ rfl) rfl (by omega) ?_
   intro v' w3 h5 h6
   have hz3:=(hz.out.alloc (.cells #[.pointer (some ⟨x,0,none⟩)] 47)).ch h6 (Col.apart (by omega) _ H.out.fp)
   have c3:w3.cell? ⟨w.heap.size+1,14,none⟩=some (.slice base k cap):=hz3.cell 14
   have f3:w3.frozen? ⟨w.heap.size+1,14,none⟩=false:=hz3.frozen 14
   obtain ⟨base',cap',rfl⟩:=h5.form
   obtain ⟨c',hst⟩:=H.out.step ownG (new_keeps _ _ _) (fun _ _=>rfl) hx.out hb.out h5 h6
   replace hst:=Hd hst;have hHeld:=c3
   refine hK.out _ _ (fun _=>hHeld) ?_
   clear hK K hz3 h5 h6 hz hrow hx hb H A
   (try simp only [Act.put,List.setIfInBounds_toArray,List.set_cons_zero,List.set_cons_succ])
   refine wpLate.take0 (i:=12) (oi:=?_) (v:=?_) ?_ (by kernel_rfl) (by kernel_rfl) (by kernel_rfl) (by kernel_rfl) ?_ (Or.inl ⟨?_,?_⟩) (fun _=>hHeld) ?_
   rotate_left 2
   ·simp only [sD,sE,sF];rfl
   ·exact fun _ _ _ h=>h
   ·rfl
   ·intro w' hSw;clear hSw;go_simp;(try with_reducible rfl)
   (try simp only [Act.put,sA,sB,sC])
   refine wpLate.take0 (i:=13) (oi:=?_) (v:=?_) ?_ (by kernel_rfl) (by kernel_rfl) (by kernel_rfl) (by kernel_rfl) ?_ (Or.inl ⟨?_,?_⟩) (fun _=>hHeld) ?_
   rotate_left 2
   ·simp only [sD,sE,sF];rfl
   ·exact fun _ _ _ h=>h
   ·rfl
   ·intro w' hSw;clear hSw;go_simp;(try with_reducible rfl)
   (try simp only [Act.put,sA,sB,sC])
   refine wpLate.take0 (i:=14) (oi:=?_) (v:=?_) ?_ (by kernel_rfl) (by kernel_rfl) (by kernel_rfl) (by kernel_rfl) ?_ (Or.inl ⟨?_,?_⟩) (fun _=>hHeld) ?_
   rotate_left 2
   ·simp only [sD,sE,sF];rfl
   ·exact fun _ _ _ h=>h
   ·rfl
   ·intro w' hSw;clear hSw;go_simp;(try with_reducible rfl)
   (try simp only [Act.put,sA,sB,sC])
   refine wpLate.one (i:=15) (o:=?_) (by kernel_rfl) ?_ (fun K hK=>?_)
   rotate_left 1
   ·simp only [sD,sE,sF];rfl
   go_simp
   refine hK.out _ _ (fun e=>Bool.noConfusion (e 15 (by simp))) ?_
   clear hK K
   (try simp only [Act.put,sA,sB,sC])
   refine wpLate.done (by kernel_rfl) ?_ _
   go_wp2;go_roundw
   case rel=>exact ⟨k+1,by go_num,hlt,_,_,_,hst⟩
   case measure=>simp [intOf];omega
  ·have:k=cpus:=by omega
   subst this;go_wp2;go_returns;have hb:=H.out.below
   exact ⟨⟨_,_,rfl,NewPart.whole H.out hc1 h64 (hTT.out.below hw2 hb) hw2⟩,hb⟩
theorem few_any (w:World) (cpus:Int) (a:Option Addr) (len cap:Nat):Calls prog 8 #[.int .i64 cpus,.slice a len cap] w fun e w'=>e=.returned (.bool (decide (1≤cpus) && decide (cpus≤9) && decide (len≤300)))∧w=w':=by
 by_cases h1:1≤cpus
 ·by_cases h2:cpus≤9
  ·by_cases h3:len≤300
   ·go_enter func8,ntmps8
    go_wp2;go_returns
    simp [h1,h2,h3];omega
   ·go_enter func8,ntmps8
    go_wp2;go_returns
    simp [h1,h2,h3];omega
  ·go_enter func8,ntmps8
   go_wp2;go_returns
   simp [h1,h2];omega
 ·go_enter func8,ntmps8
  go_wp2;go_returns
  simp [h1];omega

structure Book where
 works:List Int
 calls:List Int
 timers:List Int
 ok:Bool
structure BookQ (w:World) (F:Nat→Prop) (p:Nat) (v1 v2 v3:Value) (c:Nat→Nat) (b:Book):Prop where
 head:Blk w p #[v1,v2,v3,.bool b.ok] 77
 fp:Col F c 0 p
 i1:IntsAt w (Col F c 1) v1 b.works
 i2:IntsAt w (Col F c 2) v2 b.calls
 i3:IntsAt w (Col F c 3) v3 b.timers
 lt:∀ b,F b→b < w.heap.size
def BookAt (w:World) (F:Nat→Prop) (p:Nat) (b:Book):Prop:=∃ v1 v2 v3 c,BookQ w F p v1 v2 v3 c b
theorem BookAt.lt {b:Book} (h:BookAt w F p b):∀ x,F x→x < w.heap.size:=by
 obtain ⟨v1,v2,v3,c,h⟩:=h
 exact h.lt
theorem BookAt.fp {b:Book} (h:BookAt w F p b):F p:=by
 obtain ⟨v1,v2,v3,c,h⟩:=h
 exact h.fp.1
theorem BookQ.ch {F G:Nat→Prop} {v1 v2 v3:Value} {c:Nat→Nat} {b:Book} (h:BookQ w F p v1 v2 v3 c b) (hc:Ch G w w') (hd:∀ x,F x→¬ G x):BookQ w' F p v1 v2 v3 c b :=
 ⟨h.head.ch hc (hd p h.fp.1),h.fp,h.i1.ch hc (fun x hx=>hd x hx.1),h.i2.ch hc (fun x hx=>hd x hx.1),h.i3.ch hc (fun x hx=>hd x hx.1),fun x hx=>Nat.lt_of_lt_of_le (h.lt x hx) hc.size⟩
theorem BookAt.ch {F G:Nat→Prop} {b:Book} (h:BookAt w F p b) (hc:Ch G w w') (hd:∀ x,F x→¬ G x):BookAt w' F p b:=by
 obtain ⟨v1,v2,v3,c,h⟩:=h
 exact ⟨_,_,_,_,h.ch hc hd⟩
theorem BookAt.below {b:Book} (h:BookAt w F p b) (hb:Below w.heap.size w w'):BookAt w' F p b:=h.ch (Ch.off hb) (fun _ _ h=>h)
def BkS (w w':World) (F:Nat→Prop) (p:Nat) (b:Book):Prop:=BookAt w' (Plus w w' F) p b∧Ch F w w'
theorem plus_up {w w1 w2:World} (hs:w1.heap.size≤w2.heap.size):∀ b,Plus w w1 F b→Plus w w2 F b:=fun b hb=>hb.imp id (fun e=>⟨e.1,Nat.lt_of_lt_of_le e.2 hs⟩)
theorem BookQ.plus {w w1 w2:World} {v1 v2 v3:Value} {c:Nat→Nat} {b:Book} (h:BookQ w2 (Plus w w1 F) p v1 v2 v3 c b) (hs:w1.heap.size≤w2.heap.size):BookAt w2 (Plus w w2 F) p b :=
 ⟨_,_,_,_,h.head,⟨plus_up hs _ h.fp.1,h.fp.2⟩,h.i1.mono (fun x hx=>⟨plus_up hs _ hx.1,hx.2⟩),h.i2.mono (fun x hx=>⟨plus_up hs _ hx.1,hx.2⟩),h.i3.mono (fun x hx=>⟨plus_up hs _ hx.1,hx.2⟩),fun x hx=>hx.elim (fun e=>h.lt x (.inl e)) (fun e=>e.2)⟩
theorem BookQ.close {w W w2 W3 W4:World} {v1 v2 v3:Value} {c:Nat→Nat} {b:Book} (hb0:Below w.heap.size w W) (hs:w2.heap.size≤W3.heap.size) (h1:Ch F W W3) (h2:Ch (Plus W w2 F) W3 W4) (q:BookQ W4 (Plus W w2 F) p v1 v2 v3 c b):BkS w W4 F p b:=by
 have a:=h1.size;have d:=h2.size
 refine ⟨?_,(((Ch.off hb0).mono (fun _ _ h=>h.elim)).trans h1).then h2 (fun i hi hp=>hp.elim id (fun e=>by have:=hb0.size;omega))⟩
 obtain ⟨u1,u2,u3,c',hq⟩:=q.plus (w:=W) (w1:=w2) (by omega)
 exact ⟨u1,u2,u3,c',hq.head,⟨Plus.cover hb0.size _ hq.fp.1,hq.fp.2⟩,hq.i1.mono (fun x hx=>⟨Plus.cover hb0.size _ hx.1,hx.2⟩),hq.i2.mono (fun x hx=>⟨Plus.cover hb0.size _ hx.1,hx.2⟩),hq.i3.mono (fun x hx=>⟨Plus.cover hb0.size _ hx.1,hx.2⟩),fun x hx=>hx.elim (fun e=>hq.lt x (.inl e)) (fun e=>e.2)⟩
def bookRec (b:Book) (x:Rec):Book :=
 if x.kind=5 then { b with works:=b.works.erase x.id,ok:=b.ok && b.works.contains x.id }
 else if x.kind=6 then { b with calls:=b.calls.erase x.id,ok:=b.ok && b.calls.contains x.id }
 else if x.kind=3 then { b with timers:=b.timers.erase x.id,ok:=b.ok && b.timers.contains x.id }
 else b
def bookRet (b:Book) (e:Ev) (id timer:Int):Book :=
 if e.kind=18 then { b with works:=b.works++[id] }
 else if e.kind=20 then { b with calls:=b.calls++[id] }
 else if e.kind=10∨e.kind=6 then { b with timers:=b.timers++[id] }
 else if e.kind=11 then { b with timers:=b.timers.erase e.id,ok:=b.ok && b.timers.contains e.id }
 else if e.kind=7∨e.kind=4 then (if 0 < timer then { b with timers:=b.timers.erase timer,ok:=b.ok && b.timers.contains timer } else b)
 else b
theorem same_one {v1 v2:Value} {r:Rec} (h1:RecsAt w v1 [r]) (h2:RecsAt w v2 [r]):Calls prog 75 #[v1,v2] w fun e w'=>e=.returned (.bool true)∧∃ n,w'=w.drewN n:=by
 rcases h1 with ⟨h,_⟩ | ⟨b1,r1,h,rfl,B1⟩
 ·cases h
 rcases h2 with ⟨h',_⟩ | ⟨b2,r2,h',rfl,B2⟩
 ·cases h'
 cases h
 cases h'
 obtain ⟨kind,cpu,id,n,why⟩:=r;have a0:=B1.cell 0;have a1:=B1.cell 1;have a2:=B1.cell 2;have a3:=B1.cell 3;have a4:=B1.cell 4;have d0:=B2.cell 0;have d1:=B2.cell 1;have d2:=B2.cell 2;have d3:=B2.cell 3;have d4:=B2.cell 4
 simp only [recC] at a0 a1 a2 a3 a4 d0 d1 d2 d3 d4
 clear B1 B2
 go_enter func75,ntmps75
 go_wp2
 refine wp_loop_rounds 2 ?_
 rw [rounds_succ];go_wp2_with fail;go_quiet (fail);go_wp2_with fail;rw [rounds_succ];go_wp2;go_returns
 exact ⟨rfl,nq,rfl⟩
structure ThSame (t t':Threads):Prop where
 ids:t'.ids=t.ids
 keys:t'.all.map Prod.fst=t.all.map Prod.fst
 slp:∀ id,thT t' id=thT t id
theorem ThSame.refl (t:Threads):ThSame t t:=⟨rfl,rfl,fun _=>rfl⟩
theorem ThSame.trans {a b c:Threads} (h:ThSame a b) (k:ThSame b c):ThSame a c:=⟨k.ids.trans h.ids,k.keys.trans h.keys,fun id=>(k.slp id).trans (h.slp id)⟩
theorem ThSame.ok {t t':Threads} (h:ThSame t t') {own wh:List (Int × Int)} (k:ThOk t own wh):ThOk t' own wh:=k.same h.ids h.keys h.slp
theorem thPlace_same (th:Threads) (id cpu:Int) (fo:Bool):ThSame th (thPlace th id cpu fo).1:=by
 unfold thPlace
 cases hg:mget th.all id with
 | none=>exact ThSame.refl _
 | some x =>
  dsimp only
  split
  ·exact ThSame.refl _
  ·refine ⟨rfl,mput_keys_old (by rw [hg];rfl),fun j=>?_⟩
   rw [thT_put]
   split
   ·rename_i e
    subst e
    simp [thT,hg]
   ·rfl
theorem thAim_same (th:Threads) (id:Int) (m:Nat):ThSame th (thAim th id m).1:=by
 unfold thAim
 cases hg:mget th.all id with
 | none=>exact ThSame.refl _
 | some x =>
  dsimp only
  split
  ·refine ⟨rfl,mput_keys_old (by rw [hg];rfl),fun j=>?_⟩
   rw [thT_put]
   split
   ·rename_i e
    subst e
    simp [thT,hg]
   ·rfl
  ·exact ThSame.refl _
structure KSame (k k':K):Prop where
 th:ThSame k.th k'.th
 tm:k'.tm=k.tm
 own:k'.own=k.own
 wk:k'.wk=k.wk
 cl:k'.cl=k.cl
 co:k'.co=k.co
 gv:k'.gv=k.gv
 cpus:k'.cpus=k.cpus
 now:k'.now=k.now
 limit:k'.limit=k.limit
theorem KSame.refl (k:K):KSame k k:=⟨ThSame.refl _,rfl,rfl,rfl,rfl,rfl,rfl,rfl,rfl,rfl⟩
theorem KSame.trans {a b c:K} (h:KSame a b) (k:KSame b c):KSame a c :=
 ⟨h.th.trans k.th,k.tm.trans h.tm,k.own.trans h.own,k.wk.trans h.wk,k.cl.trans h.cl,k.co.trans h.co,k.gv.trans h.gv,k.cpus.trans h.cpus,k.now.trans h.now,k.limit.trans h.limit⟩
theorem KSame.fold {α:Type} {g:K→α→K} (hg:∀ k x,KSame k (g k x)):∀ (l:List α) (k:K),KSame k (l.foldl g k)
 | [],k=>KSame.refl k
 | x::l,k=>(hg k x).trans (KSame.fold hg l (g k x))
theorem kPut_same (k:K) (id near:Int):KSame k (kPut k id near):=⟨thPlace_same _ _ _ _,rfl,rfl,rfl,rfl,rfl,rfl,rfl,rfl,rfl⟩
theorem qs_same (k:K) (q:Runq):KSame k { k with qs:=q }:=⟨ThSame.refl _,rfl,rfl,rfl,rfl,rfl,rfl,rfl,rfl,rfl⟩
theorem kMend_same (k:K) (id:Int):KSame k (kMend k id):=by
 unfold kMend kMendW
 split
 ·exact KSame.refl _
 ·exact (qs_same k _).trans (kPut_same _ _ _)
theorem kLead_same (k:K) (n near:Int):KSame k (kLead k n near):=⟨ThSame.refl _,rfl,rfl,rfl,rfl,rfl,rfl,rfl,rfl,rfl⟩
theorem kAim_same (k:K) (n:Int):KSame k (kAim k n):=by
 unfold kAim
 split
 ·exact kLead_same _ _ _
 ·exact KSame.refl _
theorem kDone_same (k:K) (cpu:Int):KSame k (kDone k cpu):=⟨ThSame.refl _,rfl,rfl,rfl,rfl,rfl,rfl,rfl,rfl,rfl⟩
theorem kEmpty_same (k:K) (cpu:Int):KSame k (kEmpty k cpu).1:=by
 unfold kEmpty
 split
 ·exact KSame.refl _
 ·exact (qs_same k _).trans (kPut_same _ _ _)
theorem kHalt_same (k:K) (cpu by':Int):KSame k (kHalt k cpu by').1:=by
 unfold kHalt
 split
 ·split
  ·unfold kHaltE
   have h:=KSame.fold (g:=fun k n=>kLead k n cpu) (fun k n=>kLead_same k n cpu) (routeOn k.rt cpu) k
   exact ⟨h.th,h.tm,h.own,h.wk,h.cl,h.co,h.gv,h.cpus,h.now,h.limit⟩
  ·exact KSame.refl _
 ·exact ⟨ThSame.refl _,rfl,rfl,rfl,rfl,rfl,rfl,rfl,rfl,rfl⟩
theorem kComes_same (k:K) (cpu:Int):KSame k (kComeC (kComeB (kComeA k cpu))) :=
 have h1:KSame k (kComeA k cpu):=⟨ThSame.refl _,rfl,rfl,rfl,rfl,rfl,rfl,rfl,rfl,rfl⟩
 have h2:∀ k,KSame k (kComeB k):=fun k=>KSame.fold kMend_same _ k
 have h3:∀ k,KSame k (kComeC k):=fun k=>KSame.fold kAim_same _ k
 (h1.trans (h2 _)).trans (h3 _)
theorem kRequest_same (k:K) (up:Bool) (cpu:Int):KSame k (kRequest k up cpu):=by
 unfold kRequest
 split
 ·exact KSame.refl _
 ·exact ⟨ThSame.refl _,rfl,rfl,rfl,rfl,rfl,rfl,rfl,rfl,rfl⟩
theorem kPlan_same (k:K) (n:Int):KSame k (kPlan k n):=by
 unfold kPlan
 split
 ·exact KSame.refl _
 ·exact ⟨ThSame.refl _,rfl,rfl,rfl,rfl,rfl,rfl,rfl,rfl,rfl⟩
theorem iq_same (k:K) (q:Irqs):KSame k { k with iq:=q }:=⟨ThSame.refl _,rfl,rfl,rfl,rfl,rfl,rfl,rfl,rfl,rfl⟩
theorem kInterrupt_same (k:K) (e:Ev):KSame k (kInterrupt k e).1:=by
 unfold kInterrupt
 split
 ·dsimp only
  split
  ·exact (iq_same k _).trans (kLead_same _ _ _)
  ·exact iq_same k _
 split
 ·dsimp only
  split
  ·exact ⟨ThSame.refl _,rfl,rfl,rfl,rfl,rfl,rfl,rfl,rfl,rfl⟩
  ·exact iq_same k _
 split
 ·dsimp only
  split
  ·exact (iq_same k _).trans (kAim_same _ _)
  ·exact iq_same k _
 split
 ·exact iq_same k _
 split
 ·exact iq_same k _
 ·exact iq_same k _
theorem kBalance_same (k:K):KSame k (kBalance k).1:=by
 unfold kBalance
 split
 ·exact KSame.refl _
 ·split
  ·exact KSame.refl _
  ·exact ⟨thPlace_same _ _ _ _,rfl,rfl,rfl,rfl,rfl,rfl,rfl,rfl,rfl⟩
def CoOk (c:Core):Prop:=c.idle=true→c.power=true∧0≤c.way∧c.way < 4
def CosOk (k:K):Prop:=k.co.length=k.cpus∧∀ c∈k.co,CoOk c
theorem noCore_ok:CoOk noCore:=fun h=>by cases h
theorem getD_ok {l:List Core} (h:∀ c∈l,CoOk c) (i:Nat):CoOk (l.getD i noCore):=by
 rw [List.getD_eq_getElem?_getD]
 cases hg:l[i]? with
 | none=>exact noCore_ok
 | some c=>exact h c (List.mem_of_getElem? hg)
theorem coreSet_ok {l:List Core} (h:∀ c∈l,CoOk c) {f:Core→Core × Int} (hf:∀ c,CoOk c→CoOk (f c).1) (cpu:Int):(coreSet l cpu f).1.length=l.length∧∀ c∈(coreSet l cpu f).1,CoOk c:=by
 unfold coreSet
 split
 ·exact ⟨rfl,h⟩
 ·refine ⟨by simp,fun c hc=>?_⟩
  rcases List.mem_or_eq_of_mem_set hc with e | e
  ·exact h c e
  ·rw [e];exact hf _ (getD_ok h _)
theorem CosOk.set (h:CosOk k) {f:Core→Core × Int} (hf:∀ c,CoOk c→CoOk (f c).1) (cpu:Int):CosOk { k with co:=(coreSet k.co cpu f).1 } :=
 ⟨(coreSet_ok h.2 hf cpu).1.trans h.1,(coreSet_ok h.2 hf cpu).2⟩
theorem CosOk.same {k k':K} (h:CosOk k) (s:KSame k k'):CosOk k':=⟨by rw [s.co,s.cpus];exact h.1,by rw [s.co];exact h.2⟩
theorem countF_ok (b:Bool) (c:Core) (h:CoOk c):CoOk (countF b c).1:=h
theorem powerF_ok (on:Bool) (c:Core) (h:CoOk c):CoOk (powerF on c).1:=by
 unfold powerF
 split
 ·exact h
 ·exact fun e=>by cases e
theorem wakeF_ok (now:Int) (c:Core) (h:CoOk c):CoOk (wakeF now c).1:=by
 unfold wakeF
 split
 ·exact h
 split
 ·exact h
 ·exact fun e=>by cases e
theorem wayF_in (rest limit:Int):0≤wayF rest limit∧wayF rest limit < 4:=by
 unfold wayF
 split
 ·omega
 split
 ·omega
 split <;> omega
theorem restF_ok {way now:Int} (hw:0≤way∧way < 4) (c:Core) (h:CoOk c):CoOk (restF way now c).1:=by
 unfold restF
 split
 ·exact h
 split
 ·exact h
 ·rename_i e
  refine fun _=>⟨?_,hw⟩
  dsimp only
  cases hp:c.power with
  | true=>rfl
  | false=>exact absurd (.inl hp) e
theorem tickC_ok (c:Core) (h:CoOk c):CoOk (tickC c):=by
 unfold tickC
 split
 ·exact h
 ·exact h
theorem kTick_cos (h:CosOk k) (n:Int):CosOk (kTick k n):=by
 unfold kTick
 split
 ·exact h
 ·refine ⟨by rw [show (_:K).co=mapTo tickC k.co k.cpus from rfl,mapTo_len];exact h.1,fun c hc=>?_⟩
  have hc:c∈mapTo tickC k.co k.cpus:=hc
  rw [← h.1,mapTo_all] at hc
  obtain ⟨x,hx,rfl⟩:=List.mem_map.1 hc
  exact tickC_ok x (h.2 x hx)
section
open Go.Proofs.YtiocbpabbjgkhaaGreatDoor.NumD
structure TmsOk (k:K):Prop where
 tm:TmOk k.tm
 tl:k.tm.l.length=k.cpus
 th:ThOk k.th k.own k.tm.wh
def keysW (k:K):List Int:=k.tm.wh.map Prod.fst
theorem TmsOk.same {k k':K} (h:TmsOk k) (s:KSame k k'):TmsOk k'∧keysW k'=keysW k :=
 ⟨⟨by rw [s.tm];exact h.tm,by rw [s.tm,s.cpus];exact h.tl,by rw [s.own,s.tm];exact s.th.ok h.th⟩,by unfold keysW;rw [s.tm]⟩
theorem own_none {th:Threads} {own wh:List (Int × Int)} (h:ThOk th own wh) {d:Int} (hp:¬ 0 < (mget own d).getD 0):mget own d=none:=by
 cases ho:mget own d with
 | none=>rfl
 | some id =>
  have:=(h.own_pos ho).1
  rw [ho] at hp
  simp at hp
  omega
theorem TmsOk.spawn (h:TmsOk k) (prio:Int) (m:Nat):TmsOk (kSpawn k prio m)∧keysW (kSpawn k prio m)=keysW k:=by
 have h1:TmsOk { k with th:=(thSpawn k.th prio m).1 }:=⟨h.tm,h.tl,(h.th.spawn prio m).1⟩
 unfold kSpawn
 split
 ·exact h1.same (kPut_same _ _ _)
 ·exact ⟨h1,rfl⟩
theorem TmsOk.arm (h:TmsOk k) (cpu n:Int):TmsOk (kArm k cpu n)∧(((kArmR k cpu n).2≠0∧keysW (kArm k cpu n)=keysW k)∨((kArmR k cpu n).2=0∧keysW (kArm k cpu n)=keysW k++[(kArmR k cpu n).1])):=by
 unfold kArm kArmR
 split
 ·rename_i hl
  exact ⟨h,.inl ⟨hl,rfl⟩⟩
 ·obtain ⟨h1,h2,h3⟩:=h.tm.arm cpu (laterF k.now n).1
  rcases h3 with ⟨h4,h5⟩ | ⟨h4,h5,h6,h7⟩
  ·exact ⟨⟨h1,h2.trans h.tl,by dsimp only;rw [h5];exact h.th⟩,.inl ⟨h4,by unfold keysW;dsimp only;rw [h5]⟩⟩
  ·refine ⟨⟨h1,h2.trans h.tl,?_⟩,.inr ⟨h4,?_⟩⟩
   ·dsimp only
    rw [h7]
    exact h.th.wheres fun t _ ht=>by
     rw [mput_get]
     split
     ·rfl
     ·exact ht
   ·unfold keysW
    dsimp only;rw [h7]
    exact mput_keys_new h5
theorem keys_less {k k':K} {d:Int} (h:TmOk k.tm) (hs:(mget k.tm.wh d).isSome=true) (e:k'.tm=(timersCancel k.tm d).1):keysW k'=(keysW k).erase d∧d∈keysW k:=by
 have hw:=(h.cancel hs).2.2.2
 refine ⟨?_,mget_some_iff.1 hs⟩
 unfold keysW;rw [e,hw,mdel_keys]
theorem TmsOk.cancel (h:TmsOk k) (d:Int):TmsOk (kCancel k d)∧(((kCancelR k d)≠0∧keysW (kCancel k d)=keysW k)∨((kCancelR k d)=0∧keysW (kCancel k d)=(keysW k).erase d∧d∈keysW k)):=by
 unfold kCancel kCancelR
 by_cases hs:(mget k.tm.wh d).isSome=true
 ·by_cases hp:0 < (mget k.own d).getD 0
  ·rw [if_neg (fun e=>e.2 hp),if_pos hs,if_pos hp]
   exact ⟨h,.inl ⟨by decide,rfl⟩⟩
  ·rw [if_pos ⟨hs,hp⟩,if_pos hs,if_neg hp]
   obtain ⟨h1,h2,h3,h4⟩:=h.tm.cancel hs
   refine ⟨⟨h1,h2.trans h.tl,?_⟩,.inr ⟨h3,keys_less h.tm hs rfl⟩⟩
   dsimp only;rw [h4]
   exact (h.th.less h.tm.nd (own_none h.th hp)).1
 ·rw [if_neg (fun e=>hs e.1),if_neg hs]
  exact ⟨h,.inl ⟨by decide,rfl⟩⟩
theorem TmsOk.timer (h:TmsOk k) {id:Int} {x:Thread} (hx:mget k.th.all id=some x) (hs:x.sleeps=true):mget k.own x.timer=some id∧(mget k.tm.wh x.timer).isSome=true∧1≤x.timer :=
 h.th.slp id x.timer (by simp [thT,hx,hs])
theorem TmsOk.wake (h:TmsOk k) {id d:Int} (ho:mget k.own d=some id):TmsOk (kWake (kQuiet k d) id)∧keysW (kWake (kQuiet k d) id)=(keysW k).erase d∧d∈keysW k:=by
 have hw:=(h.th.own_pos ho).2
 obtain ⟨h1,h2,h3,h4⟩:=h.tm.cancel hw
 have h5:TmsOk { kQuiet k d with th:=(thWake k.th id).1 }:=⟨h1,h2.trans h.tl,by
  show ThOk (thWake k.th id).1 (mdel k.own d) (timersCancel k.tm d).1.wh
  rw [h4]
  exact h.th.wake h.tm.nd ho⟩
 obtain ⟨h6,h7⟩:=h5.same (kPut_same _ id (thGet (thWake k.th id).1 id).1.cpu)
 exact ⟨h6,h7.trans (keys_less h.tm hw rfl).1,mget_some_iff.1 hw⟩
theorem TmsOk.exit (h:TmsOk k) {id:Int} {x:Thread} (hx:mget k.th.all id=some x):TmsOk (kExit k id x)∧kExitR k id=0∧((x.sleeps=true∧1≤x.timer∧keysW (kExit k id x)=(keysW k).erase x.timer∧x.timer∈keysW k)∨(x.sleeps=false∧x.timer=0∧keysW (kExit k id x)=keysW k)):=by
 unfold kExit kExitR
 cases hs:x.sleeps with
 | true =>
  obtain ⟨ho,hw,h1⟩:=h.timer hx hs
  obtain ⟨c1,c2,c3,c4⟩:=h.tm.cancel hw
  obtain ⟨e1,e2⟩:=h.th.exit_asleep h.tm.nd hx hs
  refine ⟨⟨c1,c2.trans h.tl,?_⟩,e1,.inl ⟨rfl,h1,keys_less h.tm hw rfl⟩⟩
  show ThOk (thExit k.th id).1 (mdel k.own x.timer) (timersCancel k.tm x.timer).1.wh
  rw [c4]
  exact e2
 | false =>
  obtain ⟨e1,e2⟩:=h.th.exit hx hs
  exact ⟨⟨h.tm,h.tl,e2⟩,e1,.inr ⟨rfl,h.th.awk id x.timer (by simp [thT,hx,hs]),rfl⟩⟩
theorem TmsOk.sleep (h:TmsOk k) {id:Int} {x:Thread} (hx:mget k.th.all id=some x) (hs:x.sleeps=false) (n:Int):TmsOk (kSleep k id x n)∧(((kSleepR k id x n).2≠0∧keysW (kSleep k id x n)=keysW k)∨((kSleepR k id x n).2=0∧keysW (kSleep k id x n)=keysW k++[(kSleepR k id x n).1])):=by
 unfold kSleep kSleepR
 split
 ·rename_i hl
  exact ⟨h,.inl ⟨hl,rfl⟩⟩
 ·dsimp only
  generalize (if hasF k.active x.cpu=true then x.cpu else (firstF k.active).1)=cpu
  obtain ⟨h1,h2,h3⟩:=h.tm.arm cpu (laterF k.now n).1
  rcases h3 with ⟨h4,h5⟩ | ⟨h4,h5,h6,h7⟩
  ·rw [if_pos h4,if_pos h4]
   exact ⟨⟨h1,h2.trans h.tl,by dsimp only;rw [h5];exact h.th⟩,.inl ⟨h4,by unfold keysW;dsimp only;rw [h5]⟩⟩
  ·rw [if_neg (fun e=>e h4),if_neg (fun e=>e h4)]
   obtain ⟨s1,s2⟩:=h.th.sleep hx hs h5 h6 cpu
   refine ⟨⟨h1,h2.trans h.tl,?_⟩,.inr ⟨s1,?_⟩⟩
   ·dsimp only
    rw [h7]
    exact s2
   ·unfold keysW
    dsimp only;rw [h7]
    exact mput_keys_new h5
theorem TmsOk.tick (h:TmsOk k) (n:Int):TmsOk (kTick k n)∧keysW (kTick k n)=keysW k:=by
 unfold kTick
 split
 ·exact ⟨h,rfl⟩
 ·obtain ⟨h1,h2,h3⟩:=h.tm.go (laterF k.now n).1
  exact ⟨⟨h1,h3.trans h.tl,by dsimp only;rw [h2];exact h.th⟩,by unfold keysW;dsimp only;rw [h2]⟩
theorem TmsOk.move (h:TmsOk k) (a b:Int):TmsOk { k with tm:=(timersMove k.tm a b).1 }∧keysW { k with tm:=(timersMove k.tm a b).1 }=keysW k:=by
 obtain ⟨h1,h2,h3⟩:=h.tm.move a b
 refine ⟨⟨h1,h2.trans h.tl,?_⟩,h3⟩
 exact h.th.wheres fun t _ ht=>by
  rw [mget_some_iff] at ht ⊢;rw [h3]
  exact ht
theorem TmsOk.fire (h:TmsOk k) (cpu:Int) (hr:timersReady k.tm cpu=true):TmsOk (kFire k cpu)∧keysW (kFire k cpu)=(keysW k).erase (timersFire k.tm cpu).2.1∧(timersFire k.tm cpu).2.1∈keysW k:=by
 rcases h.tm.fire cpu with ⟨_,_,_,e⟩ | ⟨hw,_,e⟩
 ·rw [e] at hr
  cases hr
 ·obtain ⟨d,hd⟩:∃ d,d=(timersFire k.tm cpu).2.1:=⟨_,rfl⟩
  unfold kFire;dsimp only;rw [← hd] at hw e ⊢;rw [e]
  by_cases hp:0 < (mget k.own d).getD 0
  ·rw [if_pos hp]
   have ho:mget k.own d=some ((mget k.own d).getD 0):=by
    cases hg:mget k.own d with
    | none=>rw [hg] at hp;simp at hp
    | some v=>rfl
   obtain ⟨w1,w2,w3⟩:=h.wake ho
   obtain ⟨s1,s2⟩:=w1.same (kDone_same _ cpu)
   exact ⟨s1,s2.trans w2,w3⟩
  ·rw [if_neg hp]
   obtain ⟨h1,h2,h3,h4⟩:=h.tm.cancel hw
   have h5:TmsOk (kQuiet k d):=⟨h1,h2.trans h.tl,by
    show ThOk k.th (mdel k.own d) (timersCancel k.tm d).1.wh
    rw [h4]
    exact (h.th.less h.tm.nd (own_none h.th hp)).2⟩
   obtain ⟨s1,s2⟩:=h5.same (kDone_same _ cpu)
   exact ⟨s1,s2.trans (keys_less h.tm hw rfl).1,mget_some_iff.1 hw⟩
end
structure KOk (k:K):Prop where
 tms:TmsOk k
 cos:CosOk k
 wk:WkOk k.wk
 wl:k.wk.l.length=k.cpus+1
 cl:BxOk k.cl
 ll:k.cl.l.length=k.cpus
 lim:0≤k.limit
 gv:∃ lo hi,rightG lo hi=true∧k.gv=List.replicate k.cpus (lo,hi)
def keysK (k:K):List Int:=k.wk.wh.map Prod.fst
def keysC (k:K):List Int:=k.cl.l.flatten
theorem KOk.fit (h:KOk k):KFit k:=⟨h.tms.tm,h.cos.1,fun c hc hi=>(h.cos.2 c hc hi).2⟩
def KQ (k k':K):Prop:=KOk k→KOk k'∧k'.cpus=k.cpus∧keysW k'=keysW k∧keysK k'=keysK k∧(keysC k').Perm (keysC k)
theorem KQ.refl (k:K):KQ k k:=fun h=>⟨h,rfl,rfl,rfl,.refl _⟩
theorem KQ.trans {a b c:K} (h:KQ a b) (k:KQ b c):KQ a c:=fun ok=>by
 obtain ⟨a1,a2,a3,a4,a5⟩:=h ok
 obtain ⟨b1,b2,b3,b4,b5⟩:=k a1
 exact ⟨b1,b2.trans a2,b3.trans a3,b4.trans a4,b5.trans a5⟩
theorem KSame.q {k k':K} (s:KSame k k'):KQ k k':=fun h =>
 ⟨⟨(h.tms.same s).1,h.cos.same s,by rw [s.wk];exact h.wk,by rw [s.wk,s.cpus];exact h.wl,by rw [s.cl];exact h.cl,by rw [s.cl,s.cpus];exact h.ll,by rw [s.limit];exact h.lim,by rw [s.gv,s.cpus];exact h.gv⟩,
  s.cpus,(h.tms.same s).2,by unfold keysK;rw [s.wk],by unfold keysC;rw [s.cl]⟩
theorem KQ.co {l:List Core} (hl:CosOk k→CosOk { k with co:=l }):KQ k { k with co:=l }:=fun h =>
 ⟨⟨⟨h.tms.tm,h.tms.tl,h.tms.th⟩,hl h.cos,h.wk,h.wl,h.cl,h.ll,h.lim,h.gv⟩,rfl,rfl,rfl,.refl _⟩
theorem KQ.set {f:Core→Core × Int} (hf:∀ c,CoOk c→CoOk (f c).1) (cpu:Int):KQ k { k with co:=(coreSet k.co cpu f).1 }:=KQ.co fun h=>h.set hf cpu
structure Rest (k k':K):Prop where
 wk:k'.wk=k.wk
 cl:k'.cl=k.cl
 co:k'.co=k.co
 gv:k'.gv=k.gv
 cpus:k'.cpus=k.cpus
 limit:k'.limit=k.limit
theorem KSame.rest {k k':K} (s:KSame k k'):Rest k k':=⟨s.wk,s.cl,s.co,s.gv,s.cpus,s.limit⟩
theorem Rest.refl (k:K):Rest k k:=⟨rfl,rfl,rfl,rfl,rfl,rfl⟩
theorem Rest.trans {a b c:K} (h:Rest a b) (k:Rest b c):Rest a c:=⟨k.wk.trans h.wk,k.cl.trans h.cl,k.co.trans h.co,k.gv.trans h.gv,k.cpus.trans h.cpus,k.limit.trans h.limit⟩
theorem KOk.tms' {k k':K} (h:KOk k) (t:TmsOk k') (s:Rest k k'):KOk k'∧keysK k'=keysK k∧(keysC k').Perm (keysC k) :=
 ⟨⟨t,⟨by rw [s.co,s.cpus];exact h.cos.1,by rw [s.co];exact h.cos.2⟩,by rw [s.wk];exact h.wk,by rw [s.wk,s.cpus];exact h.wl,by rw [s.cl];exact h.cl,by rw [s.cl,s.cpus];exact h.ll,by rw [s.limit];exact h.lim,by rw [s.gv,s.cpus];exact h.gv⟩,
  by unfold keysK;rw [s.wk],by unfold keysC;rw [s.cl]⟩
theorem KQ.of_tms {k k':K} (t:TmsOk k→TmsOk k'∧keysW k'=keysW k) (s:Rest k k'):KQ k k':=fun h=>by
 obtain ⟨a,b,c⟩:=h.tms' (t h.tms).1 s
 exact ⟨a,s.cpus,(t h.tms).2,b,c⟩
theorem KQ.wk {m:Works} (hm:WkOk k.wk→WkOk m∧m.l.length=k.wk.l.length∧m.wh.map Prod.fst=k.wk.wh.map Prod.fst):KQ k { k with wk:=m }:=fun h=>by
 obtain ⟨a,b,c⟩:=hm h.wk
 exact ⟨⟨⟨h.tms.tm,h.tms.tl,h.tms.th⟩,h.cos,a,b.trans h.wl,h.cl,h.ll,h.lim,h.gv⟩,rfl,rfl,c,.refl _⟩
theorem KQ.cl {m:Box} (hm:BxOk k.cl→BxOk m∧m.l.length=k.cl.l.length∧m.l.flatten.Perm k.cl.l.flatten):KQ k { k with cl:=m }:=fun h=>by
 obtain ⟨a,b,c⟩:=hm h.cl
 exact ⟨⟨⟨h.tms.tm,h.tms.tl,h.tms.th⟩,h.cos,h.wk,h.wl,a,b.trans h.ll,h.lim,h.gv⟩,rfl,rfl,rfl,c⟩
theorem kTick_q (k:K) (n:Int):KQ k (kTick k n):=fun h=>by
 have a:=h.tms.tick n
 have b:=kTick_cos h.cos n
 refine ⟨⟨a.1,b,?_,?_,?_,?_,?_,?_⟩,?_,a.2,?_,?_⟩
 all_goals
  unfold kTick
  split
 ·exact h.wk
 ·exact h.wk
 ·exact h.wl
 ·exact h.wl
 ·exact h.cl
 ·exact h.cl
 ·exact h.ll
 ·exact h.ll
 ·exact h.lim
 ·exact h.lim
 ·exact h.gv
 ·exact h.gv
 ·rfl
 ·rfl
 ·rfl
 ·rfl
 ·exact .refl _
 ·exact .refl _
theorem kCount_q (k:K) (cpu what:Int):KQ k (kCount k cpu what):=by
 unfold kCount
 split
 ·exact KQ.set (countF_ok _) cpu
 ·exact KQ.refl _
theorem kLie_q (k:K) (cpu:Int):KQ k (kLie k cpu):=KQ.set (restF_ok (wayF_in _ _)) cpu
theorem dk_q (k:K) (d:Desk):KQ k { k with dk:=d }:=KSame.q ⟨ThSame.refl _,rfl,rfl,rfl,rfl,rfl,rfl,rfl,rfl,rfl⟩
theorem kStage_q (k:K) (s:Step) (cpu by':Int):KQ k (kStage k s cpu by').1:=by
 unfold kStage
 split
 ·dsimp only
  unfold kUndo
  split
  ·exact KQ.set (powerF_ok _) cpu
  split
  ·exact KSame.q ⟨ThSame.refl _,rfl,rfl,rfl,rfl,rfl,rfl,rfl,rfl,rfl⟩
  ·exact KQ.refl _
 split
 ·exact KSame.q ⟨ThSame.refl _,rfl,rfl,rfl,rfl,rfl,rfl,rfl,rfl,rfl⟩
 split
 ·dsimp only
  unfold kCome
  split
  ·exact KQ.set (powerF_ok _) cpu
  split
  ·exact KSame.q ⟨ThSame.refl _,rfl,rfl,rfl,rfl,rfl,rfl,rfl,rfl,rfl⟩
  ·exact (kComes_same k cpu).q
 ·unfold kLeave
  split
  ·exact KSame.q ⟨ThSame.refl _,rfl,rfl,rfl,rfl,rfl,rfl,rfl,rfl,rfl⟩
  split
  ·exact (kEmpty_same _ _).q
  split
  ·exact KQ.of_tms (fun h=>h.move cpu by') ⟨rfl,rfl,rfl,rfl,rfl,rfl⟩
  split
  ·exact KQ.wk fun h=>h.unbind cpu
  split
  ·exact KQ.cl fun h=>h.move cpu by'
  split
  ·exact (kHalt_same _ _ _).q
  split
  ·exact KSame.q ⟨ThSame.refl _,rfl,rfl,rfl,rfl,rfl,rfl,rfl,rfl,rfl⟩
  split
  ·exact KSame.q ⟨ThSame.refl _,rfl,rfl,rfl,rfl,rfl,rfl,rfl,rfl,rfl⟩
  ·have h1:KQ k { k with online:=notF k.online (oneF cpu) }:=KSame.q ⟨ThSame.refl _,rfl,rfl,rfl,rfl,rfl,rfl,rfl,rfl,rfl⟩
   exact h1.trans (KQ.set (k:={ k with online:=notF k.online (oneF cpu) }) (powerF_ok false) cpu)
theorem kTurn_q (k:K) (by':Int):KQ k (kTurn k by').1:=by
 have hA:KQ k (kTurnA k by').1:=by
  unfold kTurnA
  split
  ·exact dk_q k _
  ·exact (dk_q k _).trans (kStage_q _ _ _ _)
 have hB:KQ k (kTurnB k by'):=by
  unfold kTurnB
  split
  ·exact hA.trans (dk_q _ _)
  ·exact hA
 show KQ k (kTurnC (kTurnB k by'))
 unfold kTurnC
 split
 ·refine hB.trans (KSame.q ⟨ThSame.refl _,rfl,rfl,rfl,rfl,rfl,rfl,rfl,rfl,rfl⟩)
 ·exact hB
end Go.Proofs.YtiocbpabbjgkhaaGreatDoor
