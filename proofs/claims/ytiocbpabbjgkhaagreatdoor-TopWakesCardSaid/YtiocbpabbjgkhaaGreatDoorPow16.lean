/- Part 16 of the proof: contracts and plain laws, each under the conditions that it names. -/
import Derived.Test.YtiocbpabbjgkhaaGreatDoorPow15
import Derived.Deep.RegionWith
set_option maxRecDepth 100000
set_option maxHeartbeats 20000000
set_option linter.unusedVariables false
set_option linter.unusedSimpArgs false
namespace Go.Proofs.YtiocbpabbjgkhaaGreatDoor
open Go.RowKit Go.Proofs.Tryz
variable {w w' : World} {F : Nat → Prop} {p : Nat} {f : KF} {k : K}
section
open Go.Proofs.YtiocbpabbjgkhaaGreatDoor.NumD
theorem KAt.ltF (h:KAt w F p f k):∀ b,F b→b < w.heap.size:=by
 obtain ⟨c,h⟩:=h
 exact h.lt
theorem KAt.below (h:KAt w F p f k) (hb:Below w.heap.size w w'):KAt w' F p f k:=by
 obtain ⟨c,h⟩:=h
 exact (h.below hb).at
theorem KAt.drewN (h:KAt w F p f k) (n:Nat):KAt (w.drewN n) F p f k:=h.below (belowN w n)
theorem KAt.alloc (h:KAt w F p f k) (x:Obj):KAt (w.alloc x) F p f k:=h.below ((Below.refl _ _).alloc (Nat.le_refl _) _)
theorem KAt.mono {F G:Nat→Prop} (h:KAt w F p f k) (hd:∀ b,F b→G b) (hG:∀ b,G b→b < w.heap.size) (h2:¬ G 2):KAt w G p f k:=by
 obtain ⟨c,h⟩:=h
 exact (h.mono hd hG h2).at
theorem KAt.two (h:KAt w F p f k):¬ F 2:=by
 obtain ⟨c,h⟩:=h
 exact h.t2
theorem KAt.tab (h:KAt w F p f k):Tab w:=by
 obtain ⟨c,h⟩:=h
 exact h.tab
theorem KAt.h0 (h:KAt w F p f k):w.cell? ⟨p,0,none⟩=some (.pointer (some ⟨f.pt 0,0,none⟩)):=by
 obtain ⟨c,h⟩:=h
 exact h.c0
theorem KAt.h1 (h:KAt w F p f k):w.cell? ⟨p,1,none⟩=some (.pointer (some ⟨f.pt 1,0,none⟩)):=by
 obtain ⟨c,h⟩:=h
 exact h.c1
theorem KAt.h2 (h:KAt w F p f k):w.cell? ⟨p,2,none⟩=some (.pointer (some ⟨f.pt 2,0,none⟩)):=by
 obtain ⟨c,h⟩:=h
 exact h.c2
theorem KAt.h3 (h:KAt w F p f k):w.cell? ⟨p,3,none⟩=some (.pointer (some ⟨f.pt 3,0,none⟩)):=by
 obtain ⟨c,h⟩:=h
 exact h.c3
theorem KAt.h4 (h:KAt w F p f k):w.cell? ⟨p,4,none⟩=some (.pointer (some ⟨f.pt 4,0,none⟩)):=by
 obtain ⟨c,h⟩:=h
 exact h.c4
theorem KAt.h5 (h:KAt w F p f k):w.cell? ⟨p,5,none⟩=some (.pointer (some ⟨f.pt 5,0,none⟩)):=by
 obtain ⟨c,h⟩:=h
 exact h.c5
theorem KAt.h6 (h:KAt w F p f k):w.cell? ⟨p,6,none⟩=some (.pointer (some ⟨f.pt 6,0,none⟩)):=by
 obtain ⟨c,h⟩:=h
 exact h.c6
theorem KAt.h7 (h:KAt w F p f k):w.cell? ⟨p,7,none⟩=some (.pointer (some ⟨f.pt 7,0,none⟩)):=by
 obtain ⟨c,h⟩:=h
 exact h.c7
theorem KAt.h8 (h:KAt w F p f k):w.cell? ⟨p,8,none⟩=some (.pointer (some ⟨f.pt 8,0,none⟩)):=by
 obtain ⟨c,h⟩:=h
 exact h.c8
theorem KAt.h9 (h:KAt w F p f k):w.cell? ⟨p,9,none⟩=some (.pointer (some ⟨f.pt 9,0,none⟩)):=by
 obtain ⟨c,h⟩:=h
 exact h.c9
theorem KAt.h10 (h:KAt w F p f k):w.cell? ⟨p,10,none⟩=some (.pointer (some ⟨f.pt 10,0,none⟩)):=by
 obtain ⟨c,h⟩:=h
 exact h.c10
theorem KAt.h11 (h:KAt w F p f k):w.cell? ⟨p,11,none⟩=some (.pointer (some ⟨f.pt 11,0,none⟩)):=by
 obtain ⟨c,h⟩:=h
 exact h.c11
theorem KAt.h12 (h:KAt w F p f k):w.cell? ⟨p,12,none⟩=some (.pointer (some ⟨f.pt 12,0,none⟩)):=by
 obtain ⟨c,h⟩:=h
 exact h.c12
theorem KAt.h13 (h:KAt w F p f k):w.cell? ⟨p,13,none⟩=some (.pointer (some ⟨f.pt 13,0,none⟩)):=by
 obtain ⟨c,h⟩:=h
 exact h.c13
theorem KAt.hgv (h:KAt w F p f k):w.cell? ⟨p,14,none⟩=some (f.gv):=by
 obtain ⟨c,h⟩:=h
 exact h.c_gv
theorem KAt.hcp (h:KAt w F p f k):w.cell? ⟨p,15,none⟩=some (.int .i64 k.cpus):=by
 obtain ⟨c,h⟩:=h
 exact h.c_cp
theorem KAt.hon (h:KAt w F p f k):w.cell? ⟨p,16,none⟩=some (.int .u64 k.online):=by
 obtain ⟨c,h⟩:=h
 exact h.c_on
theorem KAt.hac (h:KAt w F p f k):w.cell? ⟨p,17,none⟩=some (.int .u64 k.active):=by
 obtain ⟨c,h⟩:=h
 exact h.c_ac
theorem KAt.hnw (h:KAt w F p f k):w.cell? ⟨p,18,none⟩=some (.int .i64 k.now):=by
 obtain ⟨c,h⟩:=h
 exact h.c_nw
theorem KAt.hli (h:KAt w F p f k):w.cell? ⟨p,19,none⟩=some (.int .i64 k.limit):=by
 obtain ⟨c,h⟩:=h
 exact h.c_li
theorem KAt.hom (h:KAt w F p f k):w.cell? ⟨p,20,none⟩=some (.map (some f.om)):=by
 obtain ⟨c,h⟩:=h
 exact h.c_om
theorem KAt.n1 (h:KAt w F p f k):1≤k.cpus:=by
 obtain ⟨c,h⟩:=h
 exact h.n1
theorem KAt.n64 (h:KAt w F p f k):k.cpus≤64:=by
 obtain ⟨c,h⟩:=h
 exact h.n64
theorem KAt.on (h:KAt w F p f k):k.online < top64:=by
 obtain ⟨c,h⟩:=h
 exact h.on
theorem KAt.ac (h:KAt w F p f k):k.active < top64:=by
 obtain ⟨c,h⟩:=h
 exact h.ac
theorem KAt.nw (h:KAt w F p f k):0≤k.now∧k.now≤1152921504606846976:=by
 obtain ⟨c,h⟩:=h
 exact h.nw
theorem KAt.frozen (h:KAt w F p f k) (o:Nat):w.frozen? ⟨p,o,none⟩=false:=by
 obtain ⟨c,h⟩:=h
 exact h.head.frozen o
def KS (w w':World) (F:Nat→Prop) (p:Nat) (f:KF) (k:K):Prop:=KAt w' (Plus w w' F) p f k∧Ch F w w'
def Lk (w:World) (F:Nat→Prop) (w':World) (F':Nat→Prop):Prop:=Ch F w w'∧∀ b,F' b→Plus w w' F b
theorem KS.open (h:KS w w' F p f k):∃ F',Lk w F w' F'∧KAt w' F' p f k:=⟨_,⟨h.2,fun _ e=>e⟩,h.1⟩
theorem Lk.refl (w:World) (F:Nat→Prop):Lk w F w F:=⟨Ch.refl _ _,fun _ e=>.inl e⟩
theorem Lk.trans {w w1 w2:World} {F F1 F2:Nat→Prop} (h:Lk w F w1 F1) (g:Lk w1 F1 w2 F2):Lk w F w2 F2 :=
 ⟨h.1.then g.1 (fun i hi e=>(h.2 i e).elim id (fun e=>by omega)),fun b hb=>(g.2 b hb).elim (fun e=>(h.2 b e).imp id (fun e=>⟨e.1,Nat.lt_of_lt_of_le e.2 g.1.size⟩)) (fun e=>.inr ⟨Nat.le_trans h.1.size e.1,e.2⟩)⟩
theorem KS.nx {w1 w w':World} {F G:Nat→Prop} (h:KS w w' F p f k) (L:Lk w1 G w F):∃ F1,Hid (KAt w' F1 p f k)∧Hid (Lk w1 G w' F1):=⟨_,Hd h.1,Hd (L.trans ⟨h.2,fun _ e=>e⟩)⟩
theorem Lk.of_below (h:Below w.heap.size w w'):Lk w F w' F:=⟨Ch.of_below h,fun _ e=>.inl e⟩
theorem Lk.below {w w1 w2:World} {F F1:Nat→Prop} (h:Lk w F w1 F1) (g:Below w1.heap.size w1 w2):Lk w F w2 F1:=h.trans (Lk.of_below g)
theorem Lk.alloc {w w1:World} {F F1:Nat→Prop} (h:Lk w F w1 F1) (x:Obj):Lk w F (w1.alloc x) F1:=h.below ((Below.refl _ _).alloc (Nat.le_refl _) _)
theorem Lk.drewN {w w1:World} {F F1:Nat→Prop} (h:Lk w F w1 F1) (n:Nat):Lk w F (w1.drewN n) F1:=h.below (belowN _ _)
theorem Lk.size {w w1:World} {F F1:Nat→Prop} (h:Lk w F w1 F1):w.heap.size≤w1.heap.size:=h.1.size
theorem KAt.close {F F':Nat→Prop} {k0 k:K} (h:KAt w' F' p f k) (L:Lk w F w' F') (h0:KAt w F p f k0):KS w w' F p f k:=by
 have h2:=h0.tab.two
 refine ⟨h.mono L.2 (Plus.lt h0.ltF L.1.size) (fun e=>e.elim h0.two (fun e=>by omega)),L.1⟩
theorem KS.refl (h:KAt w F p f k):KS w w F p f k:=h.close (Lk.refl _ _) h
structure Bx (w:World) (F:Nat→Prop) (b:Nat) (v:Array Value) (t:TypeId):Prop where
 blk:Blk w b v t
 off:¬ F b
theorem Bx.lk {F F':Nat→Prop} {b:Nat} {v:Array Value} {t:TypeId} (h:Bx w F b v t) (L:Lk w F w' F'):Bx w' F' b v t:=⟨h.blk.ch L.1 h.off,fun e=>(L.2 b e).elim h.off (fun e=>by have:=h.blk.lt;omega)⟩
theorem Bx.new (h:KAt w F p f k) (v:Array Value) (t:TypeId):Bx (w.alloc (.cells v t)) F w.heap.size v t:=⟨Blk.new w v t,fun e=>by have:=h.ltF _ e;omega⟩
theorem KAt.bx {w0 w:World} {G F:Nat→Prop} (h:KAt w F p f k) (L:Lk w0 G w F) (v:Array Value) (t:TypeId):Hid (Bx (w.alloc (.cells v t)) F w.heap.size v t)∧Hid (KAt (w.alloc (.cells v t)) F p f k)∧Hid (Lk w0 G (w.alloc (.cells v t)) F):=⟨Hd (Bx.new h v t),Hd (h.alloc _),Hd (L.alloc _)⟩
theorem Bx.drewN {b:Nat} {v:Array Value} {t:TypeId} (h:Bx w F b v t) (n:Nat):Bx (w.drewN n) F b v t:=⟨h.blk.drewN n,h.off⟩
theorem Bx.alloc {b:Nat} {v:Array Value} {t:TypeId} (h:Bx w F b v t) (x:Obj):Bx (w.alloc x) F b v t:=⟨h.blk.alloc x,h.off⟩
theorem Bx.cell {b:Nat} {v:Array Value} {t:TypeId} (h:Bx w F b v t) (o:Nat):w.cell? ⟨b,o,none⟩=v[o]?:=h.blk.cell o
theorem KS.keep (h:KS w w' F p f k) {b:Nat} {v:Array Value} {t:TypeId} (hb:Blk w b v t) (hF:¬ F b):Blk w' b v t:=hb.ch h.2 hF
theorem KAtQ.turned {c c':Nat→Nat} {i:Nat} (h:KAtQ w' (Plus w w' F) p f.pt f.gv f.om f.gp c' k) (hc:Ch (Col F c i) w w'):KS w w' F p f k:=⟨h.at,Col.ch hc⟩
theorem th_mask {t:Threads} (h:ThreadsAt w F p t) (id:Int):(thGet t id).1.mask < top64:=by
 obtain ⟨sp,mb,ptr,c,h⟩:=h;unfold thGet
 cases hg:mget t.all id with
 | none=>decide
 | some x=>exact (h.keys _ (mget_mem hg)).2
theorem KAt.th_mask (h:KAt w F p f k) (id:Int):(thGet k.th id).1.mask < top64:=by
 obtain ⟨c,H⟩:=h
 exact Go.Proofs.YtiocbpabbjgkhaaGreatDoor.th_mask H.th id
theorem KAt.run_del (h:KAt w F p f k) (d:Int) (ty:TypeId):(Builtin.delete_ #[95,3] ty #[.map (some f.om),.int .i64 d]).run prog w=.ok (.tuple #[]) (mapDel w f.om d):=by
 obtain ⟨c,H⟩:=h
 exact Go.Proofs.YtiocbpabbjgkhaaGreatDoor.run_del (P:=prog) H.oma underlying95 underlying3 d ty 3
theorem KAt.run_put (h:KAt w F p f k) (d v:Int):(Instr.mapUpdate 95 (.map (some f.om)) (.int .i64 d) (.int .i64 v)).run prog w=.ok () (mapPut w f.om d (.int .i64 v)):=by
 obtain ⟨c,H⟩:=h
 exact Go.Proofs.YtiocbpabbjgkhaaGreatDoor.run_put (P:=prog) H.oma underlying95 underlying3 d (.int .i64 v)
theorem KAt.look1 (h:KAt w F p f k) (d:Int):(Instr.lookup 95 (.map (some f.om)) (.int .i64 d) false).run prog w=.ok (.int .i64 ((mget k.own d).getD 0)) w:=by
 obtain ⟨c,H⟩:=h
 exact H.oma.look1 underlying95 underlying3 (zero3 w) d
theorem KAt.del (h:KAt w F p f k) (d:Int):KS w (mapDel w f.om d) F p f { k with own:=mdel k.own d }:=by
 obtain ⟨c,H⟩:=h
 exact KAt.close (H.o_del d).at ⟨(Ch.refl _ w).mapDel (fun _=>H.fom.1) d,fun b hb=>.inl hb⟩ H.at
theorem KAt.put (h:KAt w F p f k) (d v:Int):KS w (mapPut w f.om d (.int .i64 v)) F p f { k with own:=mput k.own d v }:=by
 obtain ⟨c,H⟩:=h
 exact KAt.close (H.o_put d v).at ⟨(Ch.refl _ w).mapPut (fun _=>H.fom.1) d _,fun b hb=>.inl hb⟩ H.at
theorem KAt.set_online (h:KAt w F p f k) (v:Nat) (hv:v < top64):KS w (w.setCell ⟨p,16,none⟩ (.int .u64 (v:Nat))) F p f { k with online:=v }:=by
 obtain ⟨c,H⟩:=h
 exact KAt.close (H.s_online v hv).at ⟨(Ch.refl _ w).setCell (p:=⟨p,16,none⟩) (fun _=>H.fp.1) _,fun b hb=>.inl hb⟩ H.at
theorem KAt.set_active (h:KAt w F p f k) (v:Nat) (hv:v < top64):KS w (w.setCell ⟨p,17,none⟩ (.int .u64 (v:Nat))) F p f { k with active:=v }:=by
 obtain ⟨c,H⟩:=h
 exact KAt.close (H.s_active v hv).at ⟨(Ch.refl _ w).setCell (p:=⟨p,17,none⟩) (fun _=>H.fp.1) _,fun b hb=>.inl hb⟩ H.at
theorem KAt.set_now (h:KAt w F p f k) (v:Int) (hv:0≤v∧v≤1152921504606846976):KS w (w.setCell ⟨p,18,none⟩ (.int .i64 v)) F p f { k with now:=v }:=by
 obtain ⟨c,H⟩:=h
 exact KAt.close (H.s_now v hv).at ⟨(Ch.refl _ w).setCell (p:=⟨p,18,none⟩) (fun _=>H.fp.1) _,fun b hb=>.inl hb⟩ H.at
theorem KAt.set_limit (h:KAt w F p f k) (v:Int):KS w (w.setCell ⟨p,19,none⟩ (.int .i64 v)) F p f { k with limit:=v }:=by
 obtain ⟨c,H⟩:=h
 exact KAt.close (H.s_limit v).at ⟨(Ch.refl _ w).setCell (p:=⟨p,19,none⟩) (fun _=>H.fp.1) _,fun b hb=>.inl hb⟩ H.at
theorem KAt.ktget (h:KAt w F p f k) (id:Int):Calls prog 38 #[.pointer (some ⟨(f.pt 0),0,none⟩),.int .i64 id] w fun e w'=>e=.returned (.tuple #[.agg (thCells (thGet k.th id).1),.int .i64 (thGet k.th id).2])∧Below w.heap.size w w':=by
 obtain ⟨c,H⟩:=h
 exact tget_any w H.th id
theorem KAt.ktaim (h:KAt w F p f k) (id:Int) (m:Nat) (hm:m < top64):Calls prog 132 #[.pointer (some ⟨(f.pt 0),0,none⟩),.int .i64 id,.int .u64 m] w fun e w'=>e=.returned (.int .i64 (thAim k.th id m).2)∧KS w w' F p f { k with th:=(thAim k.th id m).1 }:=by
 obtain ⟨c,H⟩:=h;refine (taim_any w H.th id m hm).mono ?_;rintro e w' ⟨he,h1,h2,-⟩
 exact ⟨he,(H.t_th (own_th.mono h1 Plus.sub (Plus.lt (Col.lt H.lt) h2.size)) h2).turned h2⟩
theorem KAt.ktplace (h:KAt w F p f k) (id cpu:Int) (fo:Bool):Calls prog 216 #[.pointer (some ⟨(f.pt 0),0,none⟩),.int .i64 id,.int .i64 cpu,.bool fo] w fun e w'=>e=.returned (.int .i64 (thPlace k.th id cpu fo).2)∧KS w w' F p f { k with th:=(thPlace k.th id cpu fo).1 }:=by
 obtain ⟨c,H⟩:=h;refine (tplace_any w H.th id cpu fo).mono ?_;rintro e w' ⟨he,h1,h2,-⟩
 exact ⟨he,(H.t_th (own_th.mono h1 Plus.sub (Plus.lt (Col.lt H.lt) h2.size)) h2).turned h2⟩
theorem KAt.ktsleep (h:KAt w F p f k) (id timer:Int):Calls prog 222 #[.pointer (some ⟨(f.pt 0),0,none⟩),.int .i64 id,.int .i64 timer] w fun e w'=>e=.returned (.int .i64 (thSleep k.th id timer).2)∧KS w w' F p f { k with th:=(thSleep k.th id timer).1 }:=by
 obtain ⟨c,H⟩:=h;refine (tsleep_any w H.th id timer).mono ?_;rintro e w' ⟨he,h1,h2,-⟩
 exact ⟨he,(H.t_th (own_th.mono h1 Plus.sub (Plus.lt (Col.lt H.lt) h2.size)) h2).turned h2⟩
theorem KAt.ktwake (h:KAt w F p f k) (id:Int):Calls prog 226 #[.pointer (some ⟨(f.pt 0),0,none⟩),.int .i64 id] w fun e w'=>e=.returned (.tuple #[.int .i64 (thWake k.th id).2.1,.int .i64 (thWake k.th id).2.2])∧KS w w' F p f { k with th:=(thWake k.th id).1 }:=by
 obtain ⟨c,H⟩:=h;refine (twake_any w H.th id).mono ?_;rintro e w' ⟨he,h1,h2,-⟩
 exact ⟨he,(H.t_th (own_th.mono h1 Plus.sub (Plus.lt (Col.lt H.lt) h2.size)) h2).turned h2⟩
theorem KAt.ktlist (h:KAt w F p f k):Calls prog 313 #[.pointer (some ⟨(f.pt 0),0,none⟩)] w fun e w'=>(∃ v,e=.returned v∧IntsAt w' (New w) v (slotList 32 k.th.ids))∧Below w.heap.size w w':=by
 obtain ⟨c,H⟩:=h
 exact tlist_any w H.th 
theorem KAt.ktexit (h:KAt w F p f k) (id:Int):Calls prog 219 #[.pointer (some ⟨(f.pt 0),0,none⟩),.int .i64 id] w fun e w'=>e=.returned (.int .i64 (thExit k.th id).2)∧KS w w' F p f { k with th:=(thExit k.th id).1 }:=by
 obtain ⟨c,H⟩:=h;refine (texit_any w H.th id).mono ?_;rintro e w' ⟨he,h1,h2⟩
 exact ⟨he,(H.t_th h1 h2).turned h2⟩
theorem KAt.ktspawn (h:KAt w F p f k) (prio:Int) (m:Nat) (hm:m < top64):Calls prog 129 #[.pointer (some ⟨(f.pt 0),0,none⟩),.int .i64 prio,.int .u64 m] w fun e w'=>e=.returned (.tuple #[.int .i64 (thSpawn k.th prio m).2.1,.int .i64 (thSpawn k.th prio m).2.2])∧KS w w' F p f { k with th:=(thSpawn k.th prio m).1 }:=by
 obtain ⟨c,H⟩:=h;refine (tspawn_any w H.th H.tab prio m hm).mono ?_;rintro e w' ⟨he,h1,h2⟩
 exact ⟨he,(H.t_th h1 h2).turned h2⟩
theorem KAt.ksadd (h:KAt w F p f k) (cpu n:Int) (hn:In64 n):Calls prog 240 #[.pointer (some ⟨(f.pt 8),0,none⟩),.int .i64 cpu,.int .i64 n] w fun e w'=>e=.returned (.int .i64 (splitAdd k.ct cpu n).2)∧KS w w' F p f { k with ct:=(splitAdd k.ct cpu n).1 }:=by
 obtain ⟨c,H⟩:=h;refine (sadd_any w H.ct cpu n hn).mono ?_;rintro e w' ⟨he,h1,h2,-⟩
 exact ⟨he,(H.t_ct (own_ct.mono h1 Plus.sub (Plus.lt (Col.lt H.lt) h2.size)) h2).turned h2⟩
theorem KAt.ksfold (h:KAt w F p f k) (a b:Int):Calls prog 320 #[.pointer (some ⟨(f.pt 8),0,none⟩),.int .i64 a,.int .i64 b] w fun e w'=>e=.returned (.int .i64 (splitFold k.ct a b).2)∧KS w w' F p f { k with ct:=(splitFold k.ct a b).1 }:=by
 obtain ⟨c,H⟩:=h;refine (sfold_any w H.ct a b).mono ?_;rintro e w' ⟨he,h1,h2,-⟩
 exact ⟨he,(H.t_ct (own_ct.mono h1 Plus.sub (Plus.lt (Col.lt H.lt) h2.size)) h2).turned h2⟩
theorem KAt.kgenter (h:KAt w F p f k) (cpu:Int):Calls prog 160 #[.pointer (some ⟨(f.pt 9),0,none⟩),.int .i64 cpu] w fun e w'=>e=.returned (.int .i64 (gateEnter k.gt cpu).2)∧KS w w' F p f { k with gt:=(gateEnter k.gt cpu).1 }:=by
 obtain ⟨c,H⟩:=h;refine (genter_any w H.gt cpu).mono ?_;rintro e w' ⟨he,h1,h2,-⟩
 exact ⟨he,(H.t_gt (own_gt.mono h1 Plus.sub (Plus.lt (Col.lt H.lt) h2.size)) h2).turned h2⟩
theorem KAt.kgleave (h:KAt w F p f k) (cpu:Int):Calls prog 169 #[.pointer (some ⟨(f.pt 9),0,none⟩),.int .i64 cpu] w fun e w'=>e=.returned (.int .i64 (gateLeave k.gt cpu).2)∧KS w w' F p f { k with gt:=(gateLeave k.gt cpu).1 }:=by
 obtain ⟨c,H⟩:=h;refine (gleave_any w H.gt cpu).mono ?_;rintro e w' ⟨he,h1,h2,-⟩
 exact ⟨he,(H.t_gt (own_gt.mono h1 Plus.sub (Plus.lt (Col.lt H.lt) h2.size)) h2).turned h2⟩
theorem KAt.kgwant (h:KAt w F p f k):Calls prog 164 #[.pointer (some ⟨(f.pt 9),0,none⟩)] w fun e w'=>e=.returned (.int .i64 (gateWant k.gt).2)∧KS w w' F p f { k with gt:=(gateWant k.gt).1 }:=by
 obtain ⟨c,H⟩:=h;refine (gwant_any w H.gt ).mono ?_;rintro e w' ⟨he,h1,h2,-⟩
 exact ⟨he,(H.t_gt (own_gt.mono h1 Plus.sub (Plus.lt (Col.lt H.lt) h2.size)) h2).turned h2⟩
theorem KAt.kgfree (h:KAt w F p f k):Calls prog 196 #[.pointer (some ⟨(f.pt 9),0,none⟩)] w fun e w'=>e=.returned (.int .i64 (gateFree k.gt).2)∧KS w w' F p f { k with gt:=(gateFree k.gt).1 }:=by
 obtain ⟨c,H⟩:=h;refine (gfree_any w H.gt ).mono ?_;rintro e w' ⟨he,h1,h2,-⟩
 exact ⟨he,(H.t_gt (own_gt.mono h1 Plus.sub (Plus.lt (Col.lt H.lt) h2.size)) h2).turned h2⟩
theorem KAt.kgtake (h:KAt w F p f k):Calls prog 264 #[.pointer (some ⟨(f.pt 9),0,none⟩)] w fun e w'=>e=.returned (.int .i64 (gateTake k.gt).2)∧KS w w' F p f { k with gt:=(gateTake k.gt).1 }:=by
 obtain ⟨c,H⟩:=h;refine (gtake_any w H.gt ).mono ?_;rintro e w' ⟨he,h1,h2,-⟩
 exact ⟨he,(H.t_gt (own_gt.mono h1 Plus.sub (Plus.lt (Col.lt H.lt) h2.size)) h2).turned h2⟩
theorem KAt.kcget (h:KAt w F p f k) (cpu:Int):Calls prog 12 #[.pointer (some ⟨(f.pt 12),0,none⟩),.int .i64 cpu] w fun e w'=>e=.returned (.tuple #[.agg (coreL (coreGet k.co cpu).1).toArray,.int .i64 (coreGet k.co cpu).2])∧Below w.heap.size w w':=by
 obtain ⟨c,H⟩:=h
 exact cget_any w H.co cpu
theorem KAt.kccount (h:KAt w F p f k) (cpu:Int) (b:Bool):Calls prog 120 #[.pointer (some ⟨(f.pt 12),0,none⟩),.int .i64 cpu,.bool b] w fun e w'=>e=.returned (.int .i64 (coreSet k.co cpu (countF b)).2)∧KS w w' F p f { k with co:=(coreSet k.co cpu (countF b)).1 }:=by
 obtain ⟨c,H⟩:=h;refine (ccount_any w H.co cpu b).mono ?_;rintro e w' ⟨he,h1,h2,-⟩
 exact ⟨he,(H.t_co (own_co.mono h1 Plus.sub (Plus.lt (Col.lt H.lt) h2.size)) h2).turned h2⟩
theorem KAt.kctake (h:KAt w F p f k) (cpu:Int):Calls prog 209 #[.pointer (some ⟨(f.pt 12),0,none⟩),.int .i64 cpu] w fun e w'=>e=.returned (.tuple #[.int .i64 (coreBusy k.co cpu),.int .i64 (coreSteps k.co cpu),.int .i64 (coreSet k.co cpu takeF).2])∧KS w w' F p f { k with co:=(coreSet k.co cpu takeF).1 }:=by
 obtain ⟨c,H⟩:=h;refine (ctake_any w H.co cpu).mono ?_;rintro e w' ⟨he,h1,h2,-⟩
 exact ⟨he,(H.t_co (own_co.mono h1 Plus.sub (Plus.lt (Col.lt H.lt) h2.size)) h2).turned h2⟩
theorem KAt.kcpower (h:KAt w F p f k) (cpu:Int) (on:Bool):Calls prog 311 #[.pointer (some ⟨(f.pt 12),0,none⟩),.int .i64 cpu,.bool on] w fun e w'=>e=.returned (.int .i64 (coreSet k.co cpu (powerF on)).2)∧KS w w' F p f { k with co:=(coreSet k.co cpu (powerF on)).1 }:=by
 obtain ⟨c,H⟩:=h;refine (cpower_any w H.co cpu on).mono ?_;rintro e w' ⟨he,h1,h2,-⟩
 exact ⟨he,(H.t_co (own_co.mono h1 Plus.sub (Plus.lt (Col.lt H.lt) h2.size)) h2).turned h2⟩
theorem KAt.kcrest (h:KAt w F p f k) (cpu way now:Int):Calls prog 199 #[.pointer (some ⟨(f.pt 12),0,none⟩),.int .i64 cpu,.int .i64 way,.int .i64 now] w fun e w'=>e=.returned (.int .i64 (coreSet k.co cpu (restF way now)).2)∧KS w w' F p f { k with co:=(coreSet k.co cpu (restF way now)).1 }:=by
 obtain ⟨c,H⟩:=h;refine (crest_any w H.co cpu way now).mono ?_;rintro e w' ⟨he,h1,h2,-⟩
 exact ⟨he,(H.t_co (own_co.mono h1 Plus.sub (Plus.lt (Col.lt H.lt) h2.size)) h2).turned h2⟩
theorem KAt.kcwake (h:KAt w F p f k) (cpu now:Int):Calls prog 121 #[.pointer (some ⟨(f.pt 12),0,none⟩),.int .i64 cpu,.int .i64 now] w fun e w'=>(∃ n,e=.returned (.tuple #[.int .i64 n,.int .i64 (coreSet k.co cpu (wakeF now)).2]))∧KS w w' F p f { k with co:=(coreSet k.co cpu (wakeF now)).1 }:=by
 obtain ⟨c,H⟩:=h;refine (cwake_any w H.co cpu now).mono ?_;rintro e w' ⟨he,h1,h2,-⟩
 exact ⟨he,(H.t_co (own_co.mono h1 Plus.sub (Plus.lt (Col.lt H.lt) h2.size)) h2).turned h2⟩
theorem KAt.ksmust (h:KAt w F p f k) (cpu:Int):Calls prog 33 #[.pointer (some ⟨(f.pt 10),0,none⟩),.int .i64 cpu] w fun e w'=>e=.returned (.bool (stopMust k.st cpu))∧∃ n,w'=w.drewN n:=by
 obtain ⟨c,H⟩:=h
 exact smust_any w H.st cpu
theorem KAt.ksheld (h:KAt w F p f k) (cpu:Int):Calls prog 20 #[.pointer (some ⟨(f.pt 10),0,none⟩),.int .i64 cpu] w fun e w'=>e=.returned (.bool (hasF k.st.held cpu))∧w=w':=by
 obtain ⟨c,H⟩:=h
 exact sheld_any w H.st cpu
theorem KAt.kson (h:KAt w F p f k):Calls prog 351 #[.pointer (some ⟨(f.pt 10),0,none⟩)] w fun e w'=>e=.returned (.bool (stopOn k.st))∧w=w':=by
 obtain ⟨c,H⟩:=h
 exact son_any w H.st 
theorem KAt.ksack (h:KAt w F p f k) (cpu:Int):Calls prog 122 #[.pointer (some ⟨(f.pt 10),0,none⟩),.int .i64 cpu] w fun e w'=>e=.returned (.int .i64 (stopAck k.st cpu).2)∧KS w w' F p f { k with st:=(stopAck k.st cpu).1 }:=by
 obtain ⟨c,H⟩:=h
 refine (sack_any w H.st (Col.lt H.lt) cpu).mono ?_
 rintro e w' ⟨he,h1,h2⟩
 exact ⟨he,(H.t_st (own_st.mono h1 Plus.sub (Plus.lt (Col.lt H.lt) h2.size)) h2).turned h2⟩
theorem KAt.ksbegin (h:KAt w F p f k) (m:Nat) (hm:m < top64):Calls prog 352 #[.pointer (some ⟨(f.pt 10),0,none⟩),.int .u64 m] w fun e w'=>e=.returned (.int .i64 (stopBegin k.st m).2)∧KS w w' F p f { k with st:=(stopBegin k.st m).1 }:=by
 obtain ⟨c,H⟩:=h;refine (sbegin_any w H.st m hm).mono ?_;rintro e w' ⟨he,h1,h2,-⟩
 exact ⟨he,(H.t_st (own_st.mono h1 Plus.sub (Plus.lt (Col.lt H.lt) h2.size)) h2).turned h2⟩
theorem KAt.ksfree (h:KAt w F p f k):Calls prog 354 #[.pointer (some ⟨(f.pt 10),0,none⟩)] w fun e w'=>e=.returned (.int .i64 (stopFree k.st).2)∧KS w w' F p f { k with st:=(stopFree k.st).1 }:=by
 obtain ⟨c,H⟩:=h;refine (sfree_any w H.st ).mono ?_;rintro e w' ⟨he,h1,h2,-⟩
 exact ⟨he,(H.t_st (own_st.mono h1 Plus.sub (Plus.lt (Col.lt H.lt) h2.size)) h2).turned h2⟩
theorem KAt.ksready (h:KAt w F p f k):Calls prog 353 #[.pointer (some ⟨(f.pt 10),0,none⟩)] w fun e w'=>e=.returned (.bool (stopReady k.st))∧∃ n,w'=w.drewN n:=by
 obtain ⟨c,H⟩:=h
 exact sready_any w H.st 
theorem KAt.kdbusy (h:KAt w F p f k):Calls prog 35 #[.pointer (some ⟨(f.pt 11),0,none⟩)] w fun e w'=>e=.returned (.bool (deskBusy k.dk))∧w=w':=by
 obtain ⟨c,H⟩:=h
 exact dbusy_any w H.dk 
theorem KAt.kdup (h:KAt w F p f k):Calls prog 262 #[.pointer (some ⟨(f.pt 11),0,none⟩)] w fun e w'=>e=.returned (.bool (deskUp k.dk))∧w=w':=by
 obtain ⟨c,H⟩:=h
 exact dup_any w H.dk 
theorem KAt.kdcpu (h:KAt w F p f k):Calls prog 190 #[.pointer (some ⟨(f.pt 11),0,none⟩)] w fun e w'=>e=.returned (.int .i64 (deskCpu k.dk))∧w=w':=by
 obtain ⟨c,H⟩:=h
 exact dcpu_any w H.dk 
theorem KAt.kdby (h:KAt w F p f k):Calls prog 36 #[.pointer (some ⟨(f.pt 11),0,none⟩)] w fun e w'=>e=.returned (.int .i64 (deskBy k.dk))∧w=w':=by
 obtain ⟨c,H⟩:=h
 exact dby_any w H.dk 
theorem KAt.kdover (h:KAt w F p f k):Calls prog 194 #[.pointer (some ⟨(f.pt 11),0,none⟩)] w fun e w'=>e=.returned (.bool (deskOver k.dk))∧∃ n,w'=w.drewN n:=by
 obtain ⟨c,H⟩:=h
 exact dover_any w H.dk 
theorem KAt.kdbegin (h:KAt w F p f k) (up:Bool) (cpu who:Int):Calls prog 165 #[.pointer (some ⟨(f.pt 11),0,none⟩),.bool up,.int .i64 cpu,.int .i64 who] w fun e w'=>e=.returned (.int .i64 (deskBegin k.dk up cpu who).2)∧KS w w' F p f { k with dk:=(deskBegin k.dk up cpu who).1 }:=by
 obtain ⟨c,H⟩:=h;refine (dbegin_any w H.dk up cpu who).mono ?_;rintro e w' ⟨he,h1,h2⟩
 exact ⟨he,(H.t_dk h1 h2).turned h2⟩
theorem KAt.kddone (h:KAt w F p f k):Calls prog 193 #[.pointer (some ⟨(f.pt 11),0,none⟩)] w fun e w'=>e=.returned (.int .i64 (deskDone k.dk).2)∧KS w w' F p f { k with dk:=(deskDone k.dk).1 }:=by
 obtain ⟨c,H⟩:=h;refine (ddone_any w H.dk ).mono ?_;rintro e w' ⟨he,h1,h2,-⟩
 exact ⟨he,(H.t_dk (own_dk.mono h1 Plus.sub (Plus.lt (Col.lt H.lt) h2.size)) h2).turned h2⟩
theorem KAt.kdend (h:KAt w F p f k):Calls prog 195 #[.pointer (some ⟨(f.pt 11),0,none⟩)] w fun e w'=>e=.returned (.tuple #[.int .i64 (deskEnd k.dk).2.1,.int .i64 (deskEnd k.dk).2.2])∧KS w w' F p f { k with dk:=(deskEnd k.dk).1 }:=by
 obtain ⟨c,H⟩:=h;refine (dend_any w H.dk ).mono ?_;rintro e w' ⟨he,h1,h2,-⟩
 exact ⟨he,(H.t_dk (own_dk.mono h1 Plus.sub (Plus.lt (Col.lt H.lt) h2.size)) h2).turned h2⟩
theorem KAt.kdplan (h:KAt w F p f k) (n:Int):Calls prog 244 #[.pointer (some ⟨(f.pt 11),0,none⟩),.int .i64 n] w fun e w'=>e=.returned (.int .i64 (deskPlan k.dk n).2)∧KS w w' F p f { k with dk:=(deskPlan k.dk n).1 }:=by
 obtain ⟨c,H⟩:=h;refine (dplan_any w H.dk n).mono ?_;rintro e w' ⟨he,h1,h2⟩
 exact ⟨he,(H.t_dk h1 h2).turned h2⟩
theorem KAt.kdnext (h:KAt w F p f k):Calls prog 191 #[.pointer (some ⟨(f.pt 11),0,none⟩)] w fun e w'=>e=.returned (.tuple #[.agg #[.int .i64 (deskNext k.dk).2.1.stage,.bool (deskNext k.dk).2.1.undo,.bool (deskNext k.dk).2.1.fails],.int .i64 (deskNext k.dk).2.2])∧KS w w' F p f { k with dk:=(deskNext k.dk).1 }:=by
 obtain ⟨c,H⟩:=h;refine (dnext_any w H.dk ).mono ?_;rintro e w' ⟨he,h1,h2⟩
 exact ⟨he,(H.t_dk (own_dk.mono h1 Plus.sub (Plus.lt (Col.lt H.lt) h2.size)) h2).turned h2⟩
theorem KAt.krload (h:KAt w F p f k) (cpu:Int):Calls prog 28 #[.pointer (some ⟨(f.pt 1),0,none⟩),.int .i64 cpu] w fun e w'=>e=.returned (.int .i64 (runqLoad k.qs cpu))∧w=w':=by
 obtain ⟨c,H⟩:=h
 exact rload_any w H.qs cpu
theorem KAt.krpick (h:KAt w F p f k) (cpu:Int):Calls prog 206 #[.pointer (some ⟨(f.pt 1),0,none⟩),.int .i64 cpu] w fun e w'=>e=.returned (.tuple #[.int .i64 (runqPick k.qs cpu).2.1,.int .i64 (runqPick k.qs cpu).2.2])∧KS w w' F p f { k with qs:=(runqPick k.qs cpu).1 }:=by
 obtain ⟨c,H⟩:=h;refine (rpick_any w H.qs cpu).mono ?_;rintro e w' ⟨he,h1,h2⟩
 exact ⟨he,(H.t_qs h1 h2).turned h2⟩
theorem KAt.krback (h:KAt w F p f k) (d:Int):Calls prog 135 #[.pointer (some ⟨(f.pt 1),0,none⟩),.int .i64 d] w fun e w'=>e=.returned (.int .i64 (runqBack k.qs d).2)∧KS w w' F p f { k with qs:=(runqBack k.qs d).1 }:=by
 obtain ⟨c,H⟩:=h;refine (rback_any w H.qs d).mono ?_;rintro e w' ⟨he,h1,h2⟩
 exact ⟨he,(H.t_qs h1 h2).turned h2⟩
theorem KAt.krtake (h:KAt w F p f k) (d:Int):Calls prog 218 #[.pointer (some ⟨(f.pt 1),0,none⟩),.int .i64 d] w fun e w'=>e=.returned (.int .i64 (runqTake k.qs d).2)∧KS w w' F p f { k with qs:=(runqTake k.qs d).1 }:=by
 obtain ⟨c,H⟩:=h;refine (rtake_any w H.qs d).mono ?_;rintro e w' ⟨he,h1,h2⟩
 exact ⟨he,(H.t_qs h1 h2).turned h2⟩
theorem KAt.krlist (h:KAt w F p f k) (cpu:Int):Calls prog 250 #[.pointer (some ⟨(f.pt 1),0,none⟩),.int .i64 cpu] w fun e w'=>(∃ v,e=.returned v∧IntsAt w' (New w) v (runqList k.qs cpu))∧Below w.heap.size w w':=by
 obtain ⟨c,H⟩:=h
 exact rlist_any w H.qs cpu
theorem KAt.krput (h:KAt w F p f k) (cpu prio d:Int):Calls prog 217 #[.pointer (some ⟨(f.pt 1),0,none⟩),.int .i64 cpu,.int .i64 prio,.int .i64 d] w fun e w'=>e=.returned (.int .i64 (runqPut k.qs cpu prio d).2)∧KS w w' F p f { k with qs:=(runqPut k.qs cpu prio d).1 }:=by
 obtain ⟨c,H⟩:=h;refine (rput_any w H.qs cpu prio d).mono ?_;rintro e w' ⟨he,h1,h2⟩
 exact ⟨he,(H.t_qs h1 h2).turned h2⟩
theorem KAt.krbusy (h:KAt w F p f k) (m:Nat) (hm:m < top64):Calls prog 247 #[.pointer (some ⟨(f.pt 1),0,none⟩),.int .u64 m] w fun e w'=>e=.returned (.tuple #[.int .i64 (runqBest k.qs moreF m).1,.int .i64 (runqBest k.qs moreF m).2])∧Below w.heap.size w w':=by
 obtain ⟨c,H⟩:=h
 exact rbusy_any w H.tab H.qs m hm
theorem KAt.kridle (h:KAt w F p f k) (m:Nat) (hm:m < top64):Calls prog 248 #[.pointer (some ⟨(f.pt 1),0,none⟩),.int .u64 m] w fun e w'=>e=.returned (.tuple #[.int .i64 (runqBest k.qs fewerF m).1,.int .i64 (runqBest k.qs fewerF m).2])∧Below w.heap.size w w':=by
 obtain ⟨c,H⟩:=h
 exact ridle_any w H.tab H.qs m hm
theorem KAt.kiget (h:KAt w F p f k) (n:Int):Calls prog 228 #[.pointer (some ⟨(f.pt 3),0,none⟩),.int .i64 n] w fun e w'=>e=.returned (.tuple #[.agg (irqL (irqGet k.iq n)).toArray,.int .i64 (mayF 16 n)])∧Below w.heap.size w w':=by
 obtain ⟨c,H⟩:=h
 exact iget_any w H.iq n
theorem KAt.kirequest (h:KAt w F p f k) (n:Int) (m:Nat) (hm:m < top64):Calls prog 139 #[.pointer (some ⟨(f.pt 3),0,none⟩),.int .i64 n,.int .u64 m] w fun e w'=>e=.returned (.int .i64 (irqRequest k.iq n m).2)∧KS w w' F p f { k with iq:=(irqRequest k.iq n m).1 }:=by
 obtain ⟨c,H⟩:=h;refine (irequest_any w H.iq n m hm).mono ?_;rintro e w' ⟨he,h1,h2,-⟩
 exact ⟨he,(H.t_iq (own_iq.mono h1 Plus.sub (Plus.lt (Col.lt H.lt) h2.size)) h2).turned h2⟩
theorem KAt.kifree (h:KAt w F p f k) (n:Int):Calls prog 142 #[.pointer (some ⟨(f.pt 3),0,none⟩),.int .i64 n] w fun e w'=>e=.returned (.int .i64 (irqTurn k.iq n (fun _=>noIrq)).2)∧KS w w' F p f { k with iq:=(irqTurn k.iq n (fun _=>noIrq)).1 }:=by
 obtain ⟨c,H⟩:=h;refine (ifree_any w H.iq n).mono ?_;rintro e w' ⟨he,h1,h2,-⟩
 exact ⟨he,(H.t_iq (own_iq.mono h1 Plus.sub (Plus.lt (Col.lt H.lt) h2.size)) h2).turned h2⟩
theorem KAt.kiaim (h:KAt w F p f k) (n:Int) (m:Nat) (hm64:m < top64):Calls prog 145 #[.pointer (some ⟨(f.pt 3),0,none⟩),.int .i64 n,.int .u64 m] w fun e w'=>e=.returned (.int .i64 (irqAim k.iq n m).2)∧KS w w' F p f { k with iq:=(irqAim k.iq n m).1 }:=by
 obtain ⟨c,H⟩:=h;refine (iaim_any w H.iq n m hm64).mono ?_;rintro e w' ⟨he,h1,h2,-⟩
 exact ⟨he,(H.t_iq (own_iq.mono h1 Plus.sub (Plus.lt (Col.lt H.lt) h2.size)) h2).turned h2⟩
theorem KAt.kihush1 (h:KAt w F p f k) (n:Int):Calls prog 148 #[.pointer (some ⟨(f.pt 3),0,none⟩),.int .i64 n] w fun e w'=>e=.returned (.int .i64 (irqHush k.iq n true).2)∧KS w w' F p f { k with iq:=(irqHush k.iq n true).1 }:=by
 obtain ⟨c,H⟩:=h;refine (ihush1_any w H.iq n).mono ?_;rintro e w' ⟨he,h1,h2,-⟩
 exact ⟨he,(H.t_iq (own_iq.mono h1 Plus.sub (Plus.lt (Col.lt H.lt) h2.size)) h2).turned h2⟩
theorem KAt.kihush0 (h:KAt w F p f k) (n:Int):Calls prog 149 #[.pointer (some ⟨(f.pt 3),0,none⟩),.int .i64 n] w fun e w'=>e=.returned (.int .i64 (irqHush k.iq n false).2)∧KS w w' F p f { k with iq:=(irqHush k.iq n false).1 }:=by
 obtain ⟨c,H⟩:=h;refine (ihush0_any w H.iq n).mono ?_;rintro e w' ⟨he,h1,h2,-⟩
 exact ⟨he,(H.t_iq (own_iq.mono h1 Plus.sub (Plus.lt (Col.lt H.lt) h2.size)) h2).turned h2⟩
theorem KAt.kiraise (h:KAt w F p f k) (n:Int):Calls prog 150 #[.pointer (some ⟨(f.pt 3),0,none⟩),.int .i64 n] w fun e w'=>e=.returned (.int .i64 (irqTurn k.iq n raiseF).2)∧KS w w' F p f { k with iq:=(irqTurn k.iq n raiseF).1 }:=by
 obtain ⟨c,H⟩:=h;refine (iraise_any w H.iq n).mono ?_;rintro e w' ⟨he,h1,h2,-⟩
 exact ⟨he,(H.t_iq (own_iq.mono h1 Plus.sub (Plus.lt (Col.lt H.lt) h2.size)) h2).turned h2⟩
theorem KAt.kiready (h:KAt w F p f k) (n:Int):Calls prog 32 #[.pointer (some ⟨(f.pt 3),0,none⟩),.int .i64 n] w fun e w'=>e=.returned (.bool (irqReady k.iq n))∧w=w':=by
 obtain ⟨c,H⟩:=h
 exact iready_any w H.iq n
theorem KAt.kiclear (h:KAt w F p f k) (n:Int):Calls prog 203 #[.pointer (some ⟨(f.pt 3),0,none⟩),.int .i64 n] w fun e w'=>e=.returned (.int .i64 (irqClear k.iq n).2)∧KS w w' F p f { k with iq:=(irqClear k.iq n).1 }:=by
 obtain ⟨c,H⟩:=h;refine (iclear_any w H.iq n).mono ?_;rintro e w' ⟨he,h1,h2,-⟩
 exact ⟨he,(H.t_iq (own_iq.mono h1 Plus.sub (Plus.lt (Col.lt H.lt) h2.size)) h2).turned h2⟩
theorem KAt.ktwhere (h:KAt w F p f k) (d:Int):Calls prog 42 #[.pointer (some ⟨(f.pt 2),0,none⟩),.int .i64 d] w fun e w'=>e=.returned (.tuple #[.int .i64 ((mget k.tm.wh d).getD 0),.bool (mget k.tm.wh d).isSome])∧w=w':=by
 obtain ⟨c,H⟩:=h
 exact twhere_any w H.tm d
theorem KAt.ktready (h:KAt w F p f k) (hf:fewT k.tm) (cpu:Int):Calls prog 24 #[.pointer (some ⟨(f.pt 2),0,none⟩),.int .i64 cpu] w fun e w'=>e=.returned (.bool (timersReady k.tm cpu))∧Below w.heap.size w w':=by
 obtain ⟨c,H⟩:=h
 exact tready_any w H.tm hf cpu
theorem KAt.ktarm (h:KAt w F p f k) (hf:fewT k.tm) (cpu due:Int):Calls prog 221 #[.pointer (some ⟨(f.pt 2),0,none⟩),.int .i64 cpu,.int .i64 due] w fun e w'=>e=.returned (.tuple #[.int .i64 (timersArm k.tm cpu due).2.1,.int .i64 (timersArm k.tm cpu due).2.2])∧KS w w' F p f { k with tm:=(timersArm k.tm cpu due).1 }:=by
 obtain ⟨c,H⟩:=h;refine (tarm_any w H.tab H.tm hf cpu due).mono ?_;rintro e w' ⟨he,h1,h2⟩
 exact ⟨he,(H.t_tm h1 h2).turned h2⟩
theorem KAt.ktcancel (h:KAt w F p f k) (d:Int):Calls prog 225 #[.pointer (some ⟨(f.pt 2),0,none⟩),.int .i64 d] w fun e w'=>e=.returned (.int .i64 (timersCancel k.tm d).2)∧KS w w' F p f { k with tm:=(timersCancel k.tm d).1 }:=by
 obtain ⟨c,H⟩:=h;refine (tcancel_any w H.tm d).mono ?_;rintro e w' ⟨he,h1,h2⟩
 exact ⟨he,(H.t_tm h1 h2).turned h2⟩
theorem KAt.ktgo (h:KAt w F p f k) (hf:fewT k.tm) (t:Int):Calls prog 128 #[.pointer (some ⟨(f.pt 2),0,none⟩),.int .i64 t] w fun e w'=>e=.returned (.int .i64 (timersGo k.tm t).2)∧KS w w' F p f { k with tm:=(timersGo k.tm t).1 }:=by
 obtain ⟨c,H⟩:=h;refine (tgo_any w H.tm hf t).mono ?_;rintro e w' ⟨he,h1,h2⟩
 exact ⟨he,(H.t_tm h1 h2).turned h2⟩
theorem KAt.ktfire (h:KAt w F p f k) (hf:fewT k.tm) (cpu:Int):Calls prog 272 #[.pointer (some ⟨(f.pt 2),0,none⟩),.int .i64 cpu] w fun e w'=>e=.returned (.tuple #[.int .i64 (timersFire k.tm cpu).2.1,.int .i64 (timersFire k.tm cpu).2.2])∧KS w w' F p f { k with tm:=(timersFire k.tm cpu).1 }:=by
 obtain ⟨c,H⟩:=h;refine (tfire_any w H.tm hf cpu).mono ?_;rintro e w' ⟨he,h1,h2⟩
 exact ⟨he,(H.t_tm h1 h2).turned h2⟩
theorem KAt.ktnext (h:KAt w F p f k) (hf:fewT k.tm) (hx:nextOk k.tm) (cpu:Int):Calls prog 197 #[.pointer (some ⟨(f.pt 2),0,none⟩),.int .i64 cpu] w fun e w'=>e=.returned (.tuple #[.int .i64 (timersNext k.tm cpu).1,.int .i64 (timersNext k.tm cpu).2])∧Below w.heap.size w w':=by
 obtain ⟨c,H⟩:=h
 exact tnext_any w H.tm hf hx cpu
theorem KAt.ktmove (h:KAt w F p f k) (hf:fewT k.tm) (hk:keysT k.tm) (a b:Int):Calls prog 316 #[.pointer (some ⟨(f.pt 2),0,none⟩),.int .i64 a,.int .i64 b] w fun e w'=>e=.returned (.tuple #[.int .i64 (timersMove k.tm a b).2.1,.int .i64 (timersMove k.tm a b).2.2])∧KS w w' F p f { k with tm:=(timersMove k.tm a b).1 }:=by
 obtain ⟨c,H⟩:=h;refine (tmove_any w H.tm hf hk a b).mono ?_;rintro e w' ⟨he,h1,h2⟩
 exact ⟨he,(H.t_tm h1 h2).turned h2⟩
theorem KAt.klhas (h:KAt w F p f k) (d:Int):Calls prog 43 #[.pointer (some ⟨(f.pt 5),0,none⟩),.int .i64 d] w fun e w'=>e=.returned (.bool (mget k.wk.wh d).isSome)∧w=w':=by
 obtain ⟨c,H⟩:=h
 exact lhas_any w H.wk d
theorem KAt.klload (h:KAt w F p f k) (cpu:Int):Calls prog 26 #[.pointer (some ⟨(f.pt 5),0,none⟩),.int .i64 cpu] w fun e w'=>e=.returned (.int .i64 (worksLoad k.wk cpu))∧Below w.heap.size w w':=by
 obtain ⟨c,H⟩:=h
 exact lload_any w H.wk cpu
theorem KAt.klqueue (h:KAt w F p f k) (cpu:Int):Calls prog 86 #[.pointer (some ⟨(f.pt 5),0,none⟩),.int .i64 cpu] w fun e w'=>e=.returned (.tuple #[.int .i64 (worksQueue k.wk cpu).2.1,.int .i64 (worksQueue k.wk cpu).2.2])∧KS w w' F p f { k with wk:=(worksQueue k.wk cpu).1 }:=by
 obtain ⟨c,H⟩:=h;refine (lqueue_any w H.tab H.wk cpu).mono ?_;rintro e w' ⟨he,h1,h2⟩
 exact ⟨he,(H.t_wk h1 h2).turned h2⟩
theorem KAt.klunbind (h:KAt w F p f k) (cpu:Int):Calls prog 317 #[.pointer (some ⟨(f.pt 5),0,none⟩),.int .i64 cpu] w fun e w'=>e=.returned (.tuple #[.int .i64 (worksUnbind k.wk cpu).2.1,.int .i64 (worksUnbind k.wk cpu).2.2])∧KS w w' F p f { k with wk:=(worksUnbind k.wk cpu).1 }:=by
 obtain ⟨c,H⟩:=h;refine (lunbind_any w H.wk cpu).mono ?_;rintro e w' ⟨he,h1,h2⟩
 exact ⟨he,(H.t_wk h1 h2).turned h2⟩
theorem KAt.kltake (h:KAt w F p f k) (cpu:Int):Calls prog 205 #[.pointer (some ⟨(f.pt 5),0,none⟩),.int .i64 cpu] w fun e w'=>e=.returned (.tuple #[.int .i64 (worksTake k.wk cpu).2.1,.int .i64 (worksTake k.wk cpu).2.2])∧KS w w' F p f { k with wk:=(worksTake k.wk cpu).1 }:=by
 obtain ⟨c,H⟩:=h;refine (ltake_any w H.wk cpu).mono ?_;rintro e w' ⟨he,h1,h2⟩
 exact ⟨he,(H.t_wk h1 h2).turned h2⟩
theorem KAt.kbload (h:KAt w F p f k) (cpu:Int):Calls prog 22 #[.pointer (some ⟨(f.pt 6),0,none⟩),.int .i64 cpu] w fun e w'=>e=.returned (.int .i64 (boxLoad k.cl cpu))∧Below w.heap.size w w':=by
 obtain ⟨c,H⟩:=h
 exact bload_any w H.cl cpu
theorem KAt.kbsend (h:KAt w F p f k) (cpu:Int):Calls prog 157 #[.pointer (some ⟨(f.pt 6),0,none⟩),.int .i64 cpu] w fun e w'=>e=.returned (.tuple #[.int .i64 (boxSend k.cl cpu).2.1,.int .i64 (boxSend k.cl cpu).2.2])∧KS w w' F p f { k with cl:=(boxSend k.cl cpu).1 }:=by
 obtain ⟨c,H⟩:=h;refine (bsend_any w H.tab H.cl cpu).mono ?_;rintro e w' ⟨he,h1,h2⟩
 exact ⟨he,(H.t_cl h1 h2).turned h2⟩
theorem KAt.kbtake (h:KAt w F p f k) (cpu:Int):Calls prog 201 #[.pointer (some ⟨(f.pt 6),0,none⟩),.int .i64 cpu] w fun e w'=>e=.returned (.tuple #[.int .i64 (boxTake k.cl cpu).2.1,.int .i64 (boxTake k.cl cpu).2.2])∧KS w w' F p f { k with cl:=(boxTake k.cl cpu).1 }:=by
 obtain ⟨c,H⟩:=h;refine (btake_any w H.cl cpu).mono ?_;rintro e w' ⟨he,h1,h2⟩
 exact ⟨he,(H.t_cl h1 h2).turned h2⟩
theorem KAt.kbmove (h:KAt w F p f k) (a b:Int):Calls prog 318 #[.pointer (some ⟨(f.pt 6),0,none⟩),.int .i64 a,.int .i64 b] w fun e w'=>e=.returned (.tuple #[.int .i64 (boxMove k.cl a b).2.1,.int .i64 (boxMove k.cl a b).2.2])∧KS w w' F p f { k with cl:=(boxMove k.cl a b).1 }:=by
 obtain ⟨c,H⟩:=h;refine (bmove_any w H.cl a b).mono ?_;rintro e w' ⟨he,h1,h2⟩
 exact ⟨he,(H.t_cl h1 h2).turned h2⟩
theorem KAt.koset (h:KAt w F p f k) (n cpu:Int):Calls prog 229 #[.pointer (some ⟨(f.pt 4),0,none⟩),.int .i64 n,.int .i64 cpu] w fun e w'=>e=.returned (.int .i64 (routeSet k.rt n cpu).2)∧KS w w' F p f { k with rt:=(routeSet k.rt n cpu).1 }:=by
 obtain ⟨c,H⟩:=h;refine (oset_any w H.rt n cpu).mono ?_;rintro e w' ⟨he,h1,h2,-⟩
 exact ⟨he,(H.t_rt (own_rt.mono h1 Plus.sub (Plus.lt (Col.lt H.lt) h2.size)) h2).turned h2⟩
theorem KAt.koof (h:KAt w F p f k) (n:Int):Calls prog 99 #[.pointer (some ⟨(f.pt 4),0,none⟩),.int .i64 n] w fun e w'=>e=.returned (.tuple #[.int .i64 (routeOf k.rt n).1,.bool (routeOf k.rt n).2])∧w=w':=by
 obtain ⟨c,H⟩:=h
 exact oof_any w H.rt n
theorem KAt.kooff (h:KAt w F p f k) (n:Int):Calls prog 144 #[.pointer (some ⟨(f.pt 4),0,none⟩),.int .i64 n] w fun e w'=>e=.returned (.int .i64 (routeOff k.rt n).2)∧KS w w' F p f { k with rt:=(routeOff k.rt n).1 }:=by
 obtain ⟨c,H⟩:=h;refine (ooff_any w H.rt n).mono ?_;rintro e w' ⟨he,h1,h2,-⟩
 exact ⟨he,(H.t_rt (own_rt.mono h1 Plus.sub (Plus.lt (Col.lt H.lt) h2.size)) h2).turned h2⟩
theorem KAt.koon (h:KAt w F p f k) (cpu:Int):Calls prog 30 #[.pointer (some ⟨(f.pt 4),0,none⟩),.int .i64 cpu] w fun e w'=>(∃ v,e=.returned v∧IntsAt w' (New w) v (routeOn k.rt cpu))∧Below w.heap.size w w':=by
 obtain ⟨c,H⟩:=h
 exact oon_any w H.rt cpu
theorem KAt.khalloc (h:KAt w F p f k) (cpu:Int):Calls prog 158 #[.pointer (some ⟨(f.pt 7),0,none⟩),.int .i64 cpu] w fun e w'=>e=.returned (.tuple #[.int .i64 (stashAlloc k.ob cpu).2.1,.int .i64 (stashAlloc k.ob cpu).2.2])∧KS w w' F p f { k with ob:=(stashAlloc k.ob cpu).1 }:=by
 obtain ⟨c,H⟩:=h;refine (halloc_any w H.ob cpu).mono ?_;rintro e w' ⟨he,h1,h2⟩
 exact ⟨he,(H.t_ob h1 h2).turned h2⟩
theorem KAt.khgive (h:KAt w F p f k) (cpu id:Int):Calls prog 159 #[.pointer (some ⟨(f.pt 7),0,none⟩),.int .i64 cpu,.int .i64 id] w fun e w'=>e=.returned (.int .i64 (stashGive k.ob cpu id).2)∧KS w w' F p f { k with ob:=(stashGive k.ob cpu id).1 }:=by
 obtain ⟨c,H⟩:=h;refine (hgive_any w H.ob cpu id).mono ?_;rintro e w' ⟨he,h1,h2⟩
 exact ⟨he,(H.t_ob h1 h2).turned h2⟩
theorem KAt.khdrain (h:KAt w F p f k) (cpu:Int):Calls prog 312 #[.pointer (some ⟨(f.pt 7),0,none⟩),.int .i64 cpu] w fun e w'=>e=.returned (.tuple #[.int .i64 (stashDrain k.ob cpu).2.1,.int .i64 (stashDrain k.ob cpu).2.2])∧KS w w' F p f { k with ob:=(stashDrain k.ob cpu).1 }:=by
 obtain ⟨c,H⟩:=h;refine (hdrain_any w H.ob cpu).mono ?_;rintro e w' ⟨he,h1,h2⟩
 exact ⟨he,(H.t_ob h1 h2).turned h2⟩
theorem KAt.kilist (h:KAt w F p f k):Calls prog 314 #[.pointer (some ⟨(f.pt 3),0,none⟩)] w fun e w'=>(∃ v,e=.returned v∧IntsAt w' (New w) v (irqList k.iq))∧Below w.heap.size w w':=by
 obtain ⟨c,H⟩:=h
 exact ilist_any w H.iq 
end
def kPut (k:K) (id near:Int):K :=
 { k with th:=(thPlace k.th id (chooseF (thGet k.th id).1.mask k.active near).1 (chooseF (thGet k.th id).1.mask k.active near).2.1).1,qs:=(runqPut k.qs (chooseF (thGet k.th id).1.mask k.active near).1 (thGet k.th id).1.prio id).1 }
theorem KAt.kput (h:KAt w F p f k) (id near:Int):Calls prog 130 #[.pointer (some ⟨p,0,none⟩),.int .i64 id,.int .i64 near] w fun e w'=>e=.returned (.tuple #[])∧KS w w' F p f (kPut k id near):=by
 have hm:=Hd (h.th_mask id);have H0:=Hd h;have HK:=Hd h;have HL:=Hd (Lk.refl w F);clear h
 go_enter func130,ntmps130
 have P:=Hd (HK.out.ktget id);have c0:=HK.out.h0
 dsimp only [thCells] at P
 go_wp2_with fail;refine P.out.mono ?_;rintro e w1 ⟨rfl,S⟩;clear P c0
 have L1:=Lk.of_below (F:=fun _=>False) S
 replace HL:=Hd (HL.out.below S);replace HK:=Hd (HK.out.below S);clear S L1
 have HX:=HK.out.bx HL.out #[.int .i64 (thGet k.th id).1.prio,.int .u64 (thGet k.th id).1.mask,.int .i64 (thGet k.th id).1.cpu,.bool (thGet k.th id).1.forced,.bool (thGet k.th id).1.sleeps,.int .i64 (thGet k.th id).1.timer] 79
 clear HL HK;obtain ⟨HB,HK,HL⟩:=HX;have c17:=HK.out.hac;have k1:=HB.out.cell 1
 have B2:=fun n=>Hd (choose_any (thGet k.th id).1.mask k.active hm.out HK.out.ac near _ (HK.out.drewN n).tab)
 go_wp2
 go_quiet ((go_at_call 215;exact quiet_left (B2 _).out))
 replace HB:=Hd (HB.out.drewN nq);replace HL:=Hd (HL.out.drewN nq);replace HK:=Hd (HK.out.drewN nq);clear c17 k1 B2
 have P:=Hd (HK.out.ktplace id (chooseF (thGet k.th id).1.mask k.active near).1 (chooseF (thGet k.th id).1.mask k.active near).2.1)
 have c0:=HK.out.h0;go_wp2_with fail;refine P.out.mono ?_;rintro e w1 ⟨rfl,S⟩;clear P c0;obtain ⟨F1,L1,K1⟩:=S.open;clear S
 try dsimp only at K1
 replace HB:=Hd (HB.out.lk L1);replace HL:=Hd (HL.out.trans L1);replace HK:=Hd K1;clear L1 K1;have c1:=HK.out.h1;have b0:=HB.out.cell 0
 have Q:=fun n=>Hd ((HK.out.drewN n).krput (chooseF (thGet k.th id).1.mask k.active near).1 (thGet k.th id).1.prio id)
 go_wp2
 refine region_tailC (C:=fun w'=>∃ k,w'=(w1).drewN k) 9 ?_ ?_ ?_ ?_;(kernel_rfl);(kernel_rfl);(first | exact cls0 _ | exact clsN _ _);simp only [List.take_succ_cons,List.take_zero,List.drop_succ_cons,List.drop_zero];(repeat (go_big_quiet_step (fail)));refine wpQuiet_nil ?_;rintro _ ⟨nq,rfl⟩
 go_wp2_with fail;refine (Q nq).out.mono ?_;rintro e w1 ⟨rfl,S⟩;clear Q c1 b0;replace HL:=Hd (HL.out.drewN nq);replace HK:=Hd (HK.out.drewN nq);replace S:=S.nx HL.out;clear HL HK;obtain ⟨F1,HK,HL⟩:=S
 try dsimp only at HK
 go_wp2;go_end0
 exact ⟨rfl,HK.out.close HL.out H0.out⟩
def kMendW (k:K) (id:Int) (x:Thread):K:=if x.sleeps || !wrongF k.active x.mask x.cpu x.forced then k else kPut { k with qs:=(runqTake k.qs id).1 } id x.cpu
def kMend (k:K) (id:Int):K:=kMendW k id (thGet k.th id).1
theorem KAt.kmend (h:KAt w F p f k) (id:Int):Calls prog 133 #[.pointer (some ⟨p,0,none⟩),.int .i64 id] w fun e w'=>e=.returned (.tuple #[])∧KS w w' F p f (kMend k id):=by
 have hm:=h.th_mask id
 unfold kMend
 obtain ⟨x,hx⟩:∃ x,x=(thGet k.th id).1:=⟨_,rfl⟩
 rw [← hx] at hm ⊢;replace hm:=Hd hm;replace hx:=Hd hx;have H0:=Hd h;have HK:=Hd h;have HL:=Hd (Lk.refl w F);clear h
 cases hb:x.sleeps with
 | true =>
  have e:kMendW k id x=k:=by simp [kMendW,hb]
  rw [e];clear e;replace hb:=Hd hb
  go_enter func133,ntmps133
  have P:=Hd (HK.out.ktget id);have c0:=HK.out.h0
  dsimp only [thCells] at P;rw [← hx.out,hb.out] at P
  go_wp2_with fail;refine P.out.mono ?_;rintro e w1 ⟨rfl,S⟩;clear P c0
  have L1:=Lk.of_below (F:=fun _=>False) S
  replace HL:=Hd (HL.out.below S);replace HK:=Hd (HK.out.below S);clear S L1
  have HX:=HK.out.bx HL.out #[.int .i64 x.prio,.int .u64 x.mask,.int .i64 x.cpu,.bool x.forced,.bool true,.int .i64 x.timer] 79
  clear HL HK;obtain ⟨HB,HK,HL⟩:=HX;have b4:=HB.out.cell 4;go_wp2;go_quiet (fail);replace HB:=Hd (HB.out.drewN nq);replace HL:=Hd (HL.out.drewN nq);replace HK:=Hd (HK.out.drewN nq);go_wp2
  refine bodyPost_ret (results_none rfl _ _ _) rfl ?_
  exact ⟨rfl,HK.out.close HL.out H0.out⟩
 | false =>
  cases hw:wrongF k.active x.mask x.cpu x.forced with
  | false =>
   have e:kMendW k id x=k:=by simp [kMendW,hb,hw]
   rw [e];clear e;replace hb:=Hd hb;replace hw:=Hd hw
   go_enter func133,ntmps133
   have P:=Hd (HK.out.ktget id);have c0:=HK.out.h0
   dsimp only [thCells] at P;rw [← hx.out,hb.out] at P
   go_wp2_with fail;refine P.out.mono ?_;rintro e w1 ⟨rfl,S⟩;clear P c0
   have L1:=Lk.of_below (F:=fun _=>False) S
   replace HL:=Hd (HL.out.below S);replace HK:=Hd (HK.out.below S);clear S L1
   have HX:=HK.out.bx HL.out #[.int .i64 x.prio,.int .u64 x.mask,.int .i64 x.cpu,.bool x.forced,.bool false,.int .i64 x.timer] 79
   clear HL HK;obtain ⟨HB,HK,HL⟩:=HX;have b4:=HB.out.cell 4;have b1:=HB.out.cell 1;have b2:=HB.out.cell 2;have b3:=HB.out.cell 3;have c17:=HK.out.hac
   have B:=fun W=>Hd (wrong_any k.active x.mask HK.out.ac hm.out 0 x.cpu x.forced W)
   rw [hw.out] at B;go_wp2
   refine region_tailC (C:=fun w'=>∃ k,w'=((w1.alloc (.cells #[.int .i64 x.prio,.int .u64 x.mask,.int .i64 x.cpu,.bool x.forced,.bool false,.int .i64 x.timer] 79))).drewN k) 14 ?_ ?_ ?_ ?_;(kernel_rfl);(kernel_rfl);(first | exact cls0 _ | exact clsN _ _);simp only [List.take_succ_cons,List.take_zero,List.drop_succ_cons,List.drop_zero];(repeat (go_big_quiet_step (fail)));refine wpQuiet_nil ?_;rintro _ ⟨nq,rfl⟩
   go_wp2_with fail;refine (B _).out.mono ?_;rintro e w1 ⟨rfl,S⟩;replace HB:=Hd (HB.out.drewN nq);replace HL:=Hd (HL.out.drewN nq);replace HK:=Hd (HK.out.drewN nq)
   replace HB:=Hd (HB.out.lk (Lk.of_below S))
   replace HL:=Hd (HL.out.below S);replace HK:=Hd (HK.out.below S);clear S;go_wp2
   refine bodyPost_ret (results_none rfl _ _ _) rfl ?_
   exact ⟨rfl,HK.out.close HL.out H0.out⟩
  | true =>
   have e:kMendW k id x=kPut { k with qs:=(runqTake k.qs id).1 } id x.cpu:=by simp [kMendW,hb,hw]
   rw [e];clear e;replace hb:=Hd hb;replace hw:=Hd hw
   go_enter func133,ntmps133
   have P:=Hd (HK.out.ktget id);have c0:=HK.out.h0
   dsimp only [thCells] at P;rw [← hx.out,hb.out] at P
   go_wp2_with fail;refine P.out.mono ?_;rintro e w1 ⟨rfl,S⟩;clear P c0
   have L1:=Lk.of_below (F:=fun _=>False) S
   replace HL:=Hd (HL.out.below S);replace HK:=Hd (HK.out.below S);clear S L1
   have HX:=HK.out.bx HL.out #[.int .i64 x.prio,.int .u64 x.mask,.int .i64 x.cpu,.bool x.forced,.bool false,.int .i64 x.timer] 79
   clear HL HK;obtain ⟨HB,HK,HL⟩:=HX;have b4:=HB.out.cell 4;have b1:=HB.out.cell 1;have b2:=HB.out.cell 2;have b3:=HB.out.cell 3;have c17:=HK.out.hac
   have B:=fun W=>Hd (wrong_any k.active x.mask HK.out.ac hm.out 0 x.cpu x.forced W)
   rw [hw.out] at B;go_wp2
   refine region_tailC (C:=fun w'=>∃ k,w'=((w1.alloc (.cells #[.int .i64 x.prio,.int .u64 x.mask,.int .i64 x.cpu,.bool x.forced,.bool false,.int .i64 x.timer] 79))).drewN k) 14 ?_ ?_ ?_ ?_;(kernel_rfl);(kernel_rfl);(first | exact cls0 _ | exact clsN _ _);simp only [List.take_succ_cons,List.take_zero,List.drop_succ_cons,List.drop_zero];(repeat (go_big_quiet_step (fail)));refine wpQuiet_nil ?_;rintro _ ⟨nq,rfl⟩
   go_wp2_with fail;refine (B _).out.mono ?_;rintro e w1 ⟨rfl,S⟩;replace HB:=Hd (HB.out.drewN nq);replace HL:=Hd (HL.out.drewN nq);replace HK:=Hd (HK.out.drewN nq)
   replace HB:=Hd (HB.out.lk (Lk.of_below S))
   replace HL:=Hd (HL.out.below S);replace HK:=Hd (HK.out.below S);clear S;clear b4 b1 b2 b3 c17 B;have P:=Hd (HK.out.krtake id);have c1:=HK.out.h1;go_wp2_with fail;refine P.out.mono ?_;rintro e w1 ⟨rfl,S⟩;clear P c1;obtain ⟨F1,L1,K1⟩:=S.open;clear S
   try dsimp only at K1
   replace HB:=Hd (HB.out.lk L1);replace HL:=Hd (HL.out.trans L1);replace HK:=Hd K1;clear L1 K1;have b2:=HB.out.cell 2;have P:=Hd (HK.out.kput id x.cpu);go_wp2_with fail;refine P.out.mono ?_;rintro e w1 ⟨rfl,S⟩;clear P;replace S:=S.nx HL.out;clear HL HK;obtain ⟨F1,HK,HL⟩:=S
   try dsimp only at HK
   go_wp2;go_end0
   exact ⟨rfl,HK.out.close HL.out H0.out⟩
def kWake (k:K) (id:Int):K:=kPut { k with th:=(thWake k.th id).1 } id (thGet (thWake k.th id).1 id).1.cpu
theorem KAt.kwake (h:KAt w F p f k) (id:Int):Calls prog 137 #[.pointer (some ⟨p,0,none⟩),.int .i64 id] w fun e w'=>e=.returned (.tuple #[])∧KS w w' F p f (kWake k id):=by
 have H0:=Hd h;have HK:=Hd h;have HL:=Hd (Lk.refl w F);clear h;unfold kWake
 obtain ⟨t,ht⟩:∃ t,t=(thWake k.th id).1:=⟨_,rfl⟩
 rw [← ht];replace ht:=Hd ht
 obtain ⟨x,hx⟩:∃ x,x=(thGet t id).1:=⟨_,rfl⟩
 rw [← hx];replace hx:=Hd hx
 go_enter func137,ntmps137
 have P:=Hd (HK.out.ktwake id);have c0:=HK.out.h0;go_wp2_with fail;refine P.out.mono ?_;rintro e w1 ⟨rfl,S⟩;clear P c0;replace S:=S.nx HL.out;clear HL HK;obtain ⟨F1,HK,HL⟩:=S
 try dsimp only at HK
 rw [← ht.out] at HK;have P:=Hd (HK.out.ktget id);have c0:=HK.out.h0
 dsimp only [thCells] at P;rw [← hx.out] at P
 go_wp2_with fail;refine P.out.mono ?_;rintro e w1 ⟨rfl,S⟩;clear P c0
 have L1:=Lk.of_below (F:=fun _=>False) S
 replace HL:=Hd (HL.out.below S);replace HK:=Hd (HK.out.below S);clear S L1
 have HX:=HK.out.bx HL.out #[.int .i64 x.prio,.int .u64 x.mask,.int .i64 x.cpu,.bool x.forced,.bool x.sleeps,.int .i64 x.timer] 79
 clear HL HK;obtain ⟨HB,HK,HL⟩:=HX;have b2:=HB.out.cell 2;have P:=Hd (HK.out.kput id x.cpu);go_wp2_with fail;refine P.out.mono ?_;rintro e w1 ⟨rfl,S⟩;clear P;replace S:=S.nx HL.out;clear HL HK;obtain ⟨F1,HK,HL⟩:=S
 try dsimp only at HK
 go_wp2;go_end0
 exact ⟨rfl,HK.out.close HL.out H0.out⟩
def kQuiet (k:K) (d:Int):K:={ k with tm:=(timersCancel k.tm d).1,own:=mdel k.own d }
theorem KAt.kquiet (h:KAt w F p f k) (d:Int):Calls prog 136 #[.pointer (some ⟨p,0,none⟩),.int .i64 d] w fun e w'=>e=.returned (.tuple #[])∧KS w w' F p f (kQuiet k d):=by
 have H0:=Hd h;have HK:=Hd h;have HL:=Hd (Lk.refl w F);clear h
 go_enter func136,ntmps136
 have P:=Hd (HK.out.ktcancel d);have c2:=HK.out.h2;go_wp2_with fail;refine P.out.mono ?_;rintro e w1 ⟨rfl,S⟩;clear P c2;replace S:=S.nx HL.out;clear HL HK;obtain ⟨F1,HK,HL⟩:=S
 try dsimp only at HK
 have R:=fun ty=>HK.out.run_del d ty
 have c20:=HK.out.hom;go_wp2
 have S:=HK.out.del d
 replace S:=S.nx HL.out;clear HL HK;obtain ⟨F1,HK,HL⟩:=S
 try dsimp only at HK
 go_wp2;go_end0
 exact ⟨rfl,HK.out.close HL.out H0.out⟩
def kExit (k:K) (id:Int) (x:Thread):K :=
 let k1:=if x.sleeps then kQuiet k x.timer else { k with qs:=(runqTake k.qs id).1 }
 { k1 with th:=(thExit k1.th id).1 }
def kExitR (k:K) (id:Int):Int:=(thExit k.th id).2
theorem KAt.kexit (h:KAt w F p f k) (id:Int) (x:Thread):Calls prog 131 #[.pointer (some ⟨p,0,none⟩),.int .i64 id,.agg #[.int .i64 x.prio,.int .u64 x.mask,.int .i64 x.cpu,.bool x.forced,.bool x.sleeps,.int .i64 x.timer]] w fun e w'=>e=.returned (.int .i64 (kExitR k id))∧KS w w' F p f (kExit k id x):=by
 have H0:=Hd h;have HK:=Hd h;have HL:=Hd (Lk.refl w F);clear h
 have HX:=HK.out.bx HL.out #[.int .i64 x.prio,.int .u64 x.mask,.int .i64 x.cpu,.bool x.forced,.bool x.sleeps,.int .i64 x.timer] 79
 clear HL HK;obtain ⟨HB,HK,HL⟩:=HX;have b4:=HB.out.cell 4;have b5:=HB.out.cell 5;unfold kExit
 cases hb:x.sleeps with
 | true =>
  rw [hb] at HB HL HK b4 b5;replace hb:=Hd hb;rw [if_pos rfl]
  go_enter func131,ntmps131
  have P:=Hd (HK.out.kquiet x.timer);have c0:=HK.out.h0;go_wp2_with fail;refine P.out.mono ?_;rintro e w1 ⟨rfl,S⟩;clear P c0;replace S:=S.nx HL.out;clear HL HK;obtain ⟨F1,HK,HL⟩:=S
  try dsimp only at HK
  have P:=Hd (HK.out.ktexit id);have c0:=HK.out.h0;go_wp2_with fail;refine P.out.mono ?_;rintro e w1 ⟨rfl,S⟩;clear P c0;replace S:=S.nx HL.out;clear HL HK;obtain ⟨F1,HK,HL⟩:=S
  try dsimp only at HK
  go_wp2;go_returns
  exact ⟨rfl,HK.out.close HL.out H0.out⟩
 | false =>
  rw [hb] at HB HL HK b4 b5;replace hb:=Hd hb;rw [if_neg (by decide)]
  go_enter func131,ntmps131
  have P:=Hd (HK.out.krtake id);have c1:=HK.out.h1;go_wp2_with fail;refine P.out.mono ?_;rintro e w1 ⟨rfl,S⟩;clear P c1;replace S:=S.nx HL.out;clear HL HK;obtain ⟨F1,HK,HL⟩:=S
  try dsimp only at HK
  have P:=Hd (HK.out.ktexit id);have c0:=HK.out.h0;go_wp2_with fail;refine P.out.mono ?_;rintro e w1 ⟨rfl,S⟩;clear P c0;replace S:=S.nx HL.out;clear HL HK;obtain ⟨F1,HK,HL⟩:=S
  try dsimp only at HK
  go_wp2;go_returns
  exact ⟨rfl,HK.out.close HL.out H0.out⟩
section
open Go.Proofs.YtiocbpabbjgkhaaGreatDoor.NumD
def kOf (k:K) (cpu:Int):Int:=if cpu < 0∨(k.cpus:Int)≤cpu then 3 else if hasF k.active cpu then 0 else 9
theorem KAt.kof (h:KAt w F p f k) (cpu:Int):Calls prog 155 #[.pointer (some ⟨p,0,none⟩),.int .i64 cpu] w fun e w'=>e=.returned (.int .i64 (kOf k cpu))∧w=w':=by
 have c15:=h.hcp;have c17:=h.hac;have A:=Hd (has_any k.active h.ac cpu w);clear h;unfold kOf
 obtain ⟨cpus,hcp⟩:∃ c:Int,c=k.cpus:=⟨_,rfl⟩
 rw [← hcp] at c15 ⊢;clear hcp
 by_cases h1:cpu < 0
 ·rw [if_pos (.inl h1)]
  clear A c17
  go_enter func155,ntmps155
  go_wp2;go_returns
  exact ⟨rfl,rfl⟩
 ·by_cases h2:cpus≤cpu
  ·rw [if_pos (.inr h2)]
   clear A c17
   go_enter func155,ntmps155
   go_wp2;go_returns
   exact ⟨rfl,rfl⟩
  ·rw [if_neg (by omega)]
   cases hh:hasF k.active cpu with
   | true =>
    rw [hh] at A;rw [if_pos rfl];replace hh:=Hd hh
    go_enter func155,ntmps155
    go_wp2_with fail;refine A.out.mono ?_;rintro e w1 ⟨rfl,rfl⟩;go_wp2;go_returns
    exact ⟨rfl,rfl⟩
   | false =>
    rw [hh] at A;rw [if_neg (by decide)];replace hh:=Hd hh
    go_enter func155,ntmps155
    go_wp2_with fail;refine A.out.mono ?_;rintro e w1 ⟨rfl,rfl⟩;go_wp2;go_returns
    exact ⟨rfl,rfl⟩
def kArm (k:K) (cpu n:Int):K:=if (laterF k.now n).2≠0 then k else { k with tm:=(timersArm k.tm cpu (laterF k.now n).1).1 }
def kArmR (k:K) (cpu n:Int):Int × Int:=if (laterF k.now n).2≠0 then (0,(laterF k.now n).2) else (timersArm k.tm cpu (laterF k.now n).1).2
theorem KAt.in_now (h:KAt w F p f k):In64 k.now:=by
 have:=h.nw
 unfold In64
 omega
theorem KAt.karm (h:KAt w F p f k) (hf:fewT k.tm) (cpu n:Int) (hn:In64 n):Calls prog 156 #[.pointer (some ⟨p,0,none⟩),.int .i64 cpu,.int .i64 n] w fun e w'=>e=.returned (.tuple #[.int .i64 (kArmR k cpu n).1,.int .i64 (kArmR k cpu n).2])∧KS w w' F p f (kArm k cpu n):=by
 have A:=later_any k.now n w h.in_now hn
 replace hf:=Hd hf;have H0:=Hd h;have HK:=Hd h;have HL:=Hd (Lk.refl w F);clear h;unfold kArm kArmR
 obtain ⟨l,hl⟩:∃ l,l=laterF k.now n:=⟨_,rfl⟩
 rw [← hl] at A ⊢;replace A:=Hd A;obtain ⟨l1,l2⟩:=l;dsimp only at A ⊢;replace hl:=Hd hl;have c18:=HK.out.hnw
 by_cases e2:l2=0
 ·subst e2
  rw [if_neg (by decide),if_neg (by decide)]
  go_enter func156,ntmps156
  go_wp2_with fail;refine A.out.mono ?_;rintro e w1 ⟨rfl,rfl⟩;clear c18;have P:=Hd (HK.out.ktarm hf.out cpu l1);have c2:=HK.out.h2;go_wp2_with fail;refine P.out.mono ?_;rintro e w1 ⟨rfl,S⟩;clear P c2;replace S:=S.nx HL.out;clear HL HK;obtain ⟨F1,HK,HL⟩:=S
  try dsimp only at HK
  go_wp2;go_returns
  exact ⟨rfl,HK.out.close HL.out H0.out⟩
 ·rw [if_pos e2,if_pos e2]
  have e3:(l2 == 0)=false:=by simpa using e2
  go_enter func156,ntmps156
  go_wp2_with fail;refine A.out.mono ?_;rintro e w1 ⟨rfl,rfl⟩;go_wp2;go_returns
  exact ⟨rfl,HK.out.close HL.out H0.out⟩
def kCancel (k:K) (d:Int):K:=if (mget k.tm.wh d).isSome∧¬ 0 < (mget k.own d).getD 0 then { k with tm:=(timersCancel k.tm d).1 } else k
def kCancelR (k:K) (d:Int):Int:=if (mget k.tm.wh d).isSome then (if 0 < (mget k.own d).getD 0 then 6 else (timersCancel k.tm d).2) else 4
theorem KAt.kcancel (h:KAt w F p f k) (d:Int):Calls prog 166 #[.pointer (some ⟨p,0,none⟩),.int .i64 d] w fun e w'=>e=.returned (.int .i64 (kCancelR k d))∧KS w w' F p f (kCancel k d):=by
 have A:=h.ktwhere d
 have L:=h.look1 d
 have c20:=h.hom;have H0:=Hd h;have HK:=Hd h;have HL:=Hd (Lk.refl w F);clear h;unfold kCancel kCancelR
 cases hs:(mget k.tm.wh d).isSome with
 | false =>
  rw [hs] at A;replace hs:=Hd hs;replace A:=Hd A;have c2:=HK.out.h2
  have e1:¬ (false=true∧¬ 0 < (mget k.own d).getD 0):=fun e=>absurd e.1 (by decide)
  rw [if_neg e1,if_neg (by decide)];clear e1
  go_enter func166,ntmps166
  go_wp2_with fail;refine A.out.mono ?_;rintro e w1 ⟨rfl,rfl⟩;go_wp2;go_returns
  exact ⟨rfl,HK.out.close HL.out H0.out⟩
 | true =>
  rw [hs] at A;replace hs:=Hd hs;replace A:=Hd A;rw [if_pos rfl]
  obtain ⟨o,ho⟩:∃ o,o=(mget k.own d).getD 0:=⟨_,rfl⟩
  rw [← ho] at L ⊢;replace ho:=Hd ho
  by_cases hp:0 < o
  ·rw [if_pos hp,if_neg (fun e=>e.2 hp)]
   have c2:=HK.out.h2
   go_enter func166,ntmps166
   go_wp2_with fail;refine A.out.mono ?_;rintro e w1 ⟨rfl,rfl⟩;go_wp2;go_returns
   exact ⟨rfl,HK.out.close HL.out H0.out⟩
  ·rw [if_neg hp,if_pos ⟨rfl,hp⟩]
   have c2:=HK.out.h2
   go_enter func166,ntmps166
   go_wp2_with fail;refine A.out.mono ?_;rintro e w1 ⟨rfl,rfl⟩;clear c2;have P:=Hd (HK.out.ktcancel d);have c2:=HK.out.h2;go_wp2_with fail;refine P.out.mono ?_;rintro e w1 ⟨rfl,S⟩;clear P c2;replace S:=S.nx HL.out;clear HL HK;obtain ⟨F1,HK,HL⟩:=S
   try dsimp only at HK
   go_wp2;go_returns
   exact ⟨rfl,HK.out.close HL.out H0.out⟩
def kFlushR (k:K) (d:Int):Int × Int:=if d < 1∨32 < d then (0,2) else if (mget k.wk.wh d).isSome then (1,0) else (0,0)
theorem KAt.kflush (h:KAt w F p f k) (d:Int):Calls prog 167 #[.pointer (some ⟨p,0,none⟩),.int .i64 d] w fun e w'=>e=.returned (.tuple #[.int .i64 (kFlushR k d).1,.int .i64 (kFlushR k d).2])∧w=w':=by
 have c5:=h.h5
 have A:=h.klhas d
 clear h;unfold kFlushR
 by_cases h1:d < 1
 ·rw [if_pos (.inl h1)]
  clear A
  go_enter func167,ntmps167
  go_wp2;go_returns
  exact ⟨rfl,rfl⟩
 ·by_cases h2:32 < d
  ·rw [if_pos (.inr h2)]
   clear A
   go_enter func167,ntmps167
   go_wp2;go_returns
   exact ⟨rfl,rfl⟩
  ·rw [if_neg (by omega)]
   cases hs:(mget k.wk.wh d).isSome with
   | true =>
    rw [hs] at A;rw [if_pos rfl];replace hs:=Hd hs;replace A:=Hd A
    go_enter func167,ntmps167
    go_wp2_with fail;refine A.out.mono ?_;rintro e w1 ⟨rfl,rfl⟩;go_wp2;go_returns
    exact ⟨rfl,rfl⟩
   | false =>
    rw [hs] at A;rw [if_neg (by decide)];replace hs:=Hd hs;replace A:=Hd A
    go_enter func167,ntmps167
    go_wp2_with fail;refine A.out.mono ?_;rintro e w1 ⟨rfl,rfl⟩;go_wp2;go_returns
    exact ⟨rfl,rfl⟩
def kPlan (k:K) (n:Int):K:=if n < 0∨10≤n then k else { k with dk:=(deskPlan k.dk n).1 }
def kPlanR (k:K) (n:Int):Int:=if n < 0∨10≤n then 3 else (deskPlan k.dk n).2
theorem KAt.kplan (h:KAt w F p f k) (n:Int):Calls prog 168 #[.pointer (some ⟨p,0,none⟩),.int .i64 n] w fun e w'=>e=.returned (.int .i64 (kPlanR k n))∧KS w w' F p f (kPlan k n):=by
 have H0:=Hd h;have HK:=Hd h;have HL:=Hd (Lk.refl w F);clear h;unfold kPlan kPlanR
 by_cases h1:n < 0
 ·rw [if_pos (.inl h1),if_pos (.inl h1)]
  go_enter func168,ntmps168
  go_wp2;go_returns
  exact ⟨rfl,HK.out.close HL.out H0.out⟩
 ·by_cases h2:10≤n
  ·rw [if_pos (.inr h2),if_pos (.inr h2)]
   go_enter func168,ntmps168
   go_wp2;go_returns
   exact ⟨rfl,HK.out.close HL.out H0.out⟩
  ·rw [if_neg (by omega),if_neg (by omega)]
   go_enter func168,ntmps168
   have P:=Hd (HK.out.kdplan n);have c11:=HK.out.h11;go_wp2_with fail;refine P.out.mono ?_;rintro e w1 ⟨rfl,S⟩;clear P c11;replace S:=S.nx HL.out;clear HL HK;obtain ⟨F1,HK,HL⟩:=S
   try dsimp only at HK
   go_wp2;go_returns
   exact ⟨rfl,HK.out.close HL.out H0.out⟩
def kLimits (k:K) (n:Int):K:=if n < 0∨1073741824 < n then k else { k with limit:=n }
def kLimitsR (n:Int):Int:=if n < 0∨1073741824 < n then 2 else 0
theorem KAt.klimits (h:KAt w F p f k) (n:Int):Calls prog 170 #[.pointer (some ⟨p,0,none⟩),.int .i64 n] w fun e w'=>e=.returned (.int .i64 (kLimitsR n))∧KS w w' F p f (kLimits k n):=by
 have fr:=h.frozen 19;have c19:=h.hli;have H0:=Hd h;have HK:=Hd h;have HL:=Hd (Lk.refl w F);clear h;unfold kLimits kLimitsR
 by_cases h1:n < 0
 ·rw [if_pos (.inl h1),if_pos (.inl h1)]
  go_enter func170,ntmps170
  go_wp2;go_returns
  exact ⟨rfl,HK.out.close HL.out H0.out⟩
 ·by_cases h2:1073741824 < n
  ·rw [if_pos (.inr h2),if_pos (.inr h2)]
   go_enter func170,ntmps170
   go_wp2;go_returns
   exact ⟨rfl,HK.out.close HL.out H0.out⟩
  ·rw [if_neg (by omega),if_neg (by omega)]
   go_enter func170,ntmps170
   go_wp2
   have S:=HK.out.set_limit n
   replace S:=S.nx HL.out;clear HL HK;obtain ⟨F1,HK,HL⟩:=S
   try dsimp only at HK
   go_wp2;go_returns
   exact ⟨rfl,HK.out.close HL.out H0.out⟩
end
end Go.Proofs.YtiocbpabbjgkhaaGreatDoor
