/- Put PagePut PageMath Take RefPut SameRec RefTake -/
import Derived.StillTailTactics
import Derived.Deep.RegionHeld3
import Derived.Deep.AppendLies
import Derived.BigGuardPart
import Derived.Test.YtnknjeipfjdjoaaGreatDoorBScanTells05
import Derived.Test.YtnknjeipfjdjoaaGreatDoorBScanTells15
set_option maxHeartbeats 8000000
set_option maxRecDepth 20000
set_option linter.unusedSimpArgs false
set_option linter.unusedVariables false
namespace Wells
open Go Go.RowKit
def RCells (w:World) (g:Nat) (r:Rec) (d:Value):Prop:=w.cell? ⟨g,0,none⟩=some (.int .i64 r.O)∧w.cell? ⟨g,1,none⟩=some (.int .i64 r.B)∧w.cell? ⟨g,2,none⟩=some (.int .i64 r.I)∧w.cell? ⟨g,3,none⟩=some (.int .i64 r.P.K)∧w.cell? ⟨g,4,none⟩=some (.int .i64 r.P.H)∧w.cell? ⟨g,5,none⟩=some (.int .i64 r.P.S)∧w.cell? ⟨g,6,none⟩=some (.int .u32 (r.S.toNat:Int))∧w.cell? ⟨g,7,none⟩=some d
theorem RCells.keep {w w':World} {g B:Nat} {r:Rec} {d:Value} (h:RCells w g r d) (hb:Below B w w') (hg:g < B):RCells w' g r d:=by
 obtain ⟨c0,c1,c2,c3,c4,c5,c6,c7⟩:=h;exact ⟨(hb.cell (p:=⟨g,0,none⟩) hg).trans c0,(hb.cell (p:=⟨g,1,none⟩) hg).trans c1,(hb.cell (p:=⟨g,2,none⟩) hg).trans c2,(hb.cell (p:=⟨g,3,none⟩) hg).trans c3,(hb.cell (p:=⟨g,4,none⟩) hg).trans c4,(hb.cell (p:=⟨g,5,none⟩) hg).trans c5,(hb.cell (p:=⟨g,6,none⟩) hg).trans c6,(hb.cell (p:=⟨g,7,none⟩) hg).trans c7⟩
theorem RCells.new (w:World) (r:Rec) (d:Value) (t:TypeId):RCells (w.alloc (.cells #[.int .i64 r.O,.int .i64 r.B,.int .i64 r.I,.int .i64 r.P.K,.int .i64 r.P.H,.int .i64 r.P.S,.int .u32 (r.S.toNat:Int),d] t)) w.heap.size r d:=
 ⟨World.cell?_alloc_at _ _ _ _ rfl,World.cell?_alloc_at _ _ _ _ rfl,World.cell?_alloc_at _ _ _ _ rfl,World.cell?_alloc_at _ _ _ _ rfl,World.cell?_alloc_at _ _ _ _ rfl,World.cell?_alloc_at _ _ _ _ rfl,World.cell?_alloc_at _ _ _ _ rfl,World.cell?_alloc_at _ _ _ _ rfl⟩
theorem RCells.lt {w:World} {g:Nat} {r:Rec} {d:Value} (h:RCells w g r d):g < w.heap.size:=World.block_lt_of_cell? w _ h.1
theorem hi0 {x:Int} (h:0≤x∧x < 256):bv8 (hiB x 0)= .int .u8 x:=by
 unfold bv8;rw [Zz0p];congr 1
 simp
 omega
end Wells
namespace Go.Proofs.YtnknjeipfjdjoaaGreatDoor
open Go.RowKit Wells
theorem Zz6r (B:Nat) (r:Rec) (A:Option Addr) (n c:Nat) (w:World) (h:Sl w B 1 A n (r.D.map bv8)) (hB:B≤w.heap.size):
  Calls Tryz.prog 83 #[r.val (.slice A n c)] w fun e w'=>∃ v,e= .returned v∧OB w.heap.size w' v (putR r)∧Below w.heap.size w w':=by
 obtain ⟨i0,hi,hz0,hz1,hz2⟩:=info_parts infoB;obtain ⟨O,B',I,⟨K,H,S⟩,s,D⟩:=r;have hsb:=s.isLt;obtain ⟨L,hL⟩:∃ L,putR ⟨O,B',I,⟨K,H,S⟩,s,D⟩=L:=⟨_,rfl⟩;have HL:=hid hL;clear hL;rw [HL.out];unfold Rec.val;dsimp only at*;have hn0:D.length=n:=by have:=h.len;simpa using this
 have HN:=hid hn0;cases hm:Rec.may ⟨O,B',I,⟨K,H,S⟩,s,D⟩ with
 | false=>
  have HL2:=hid (show []=L by rw [← HL.out];unfold putR;rw [if_neg (by rw [hm];decide)]);rw [← HL2.out];go_enter Tryz.func83,Tryz.ntmps83;go_wp2_with fail;refine (Zz4a ⟨O,B',I,⟨K,H,S⟩,s,D⟩ A n c false _ hn0 hm).mono ?_;rintro e w2 ⟨rfl,hb2⟩;go_wp2_with fail;go_ret
  exact ⟨_,rfl,World.ownsRow_nil _ _ _ _,((Below.refl _ _).alloc (ZnR _) _).trans (hb2.mono (by simp))⟩
 | true=>
  obtain ⟨r1,r2,r3,r4,r5,r6,r7,r8⟩:=Zz7q hm;obtain ⟨k1,k2,k3,k4,k5,k6⟩:=Par.may_ok r7;have hshort:=Zz2n hm;have HSH:=hid hshort;rw [Zz2w] at hshort;dsimp only at r1 r2 r3 r4 r5 r6 r7 r8 k1 k2 k3 k4 k5 k6 hshort;have hn42:n≤42:=by omega
  have hn1:1≤n:=by omega
  have hpl:=hid (show cellL 1 (recB ⟨O,B',I,⟨K,H,S⟩,s,D⟩)=L by rw [← Zz7w hm];exact HL.out);have hlen:=hid (Zz2w ⟨O,B',I,⟨K,H,S⟩,s,D⟩);have HMI:=hid hm;have HM:=hid hn0;have cK:=hid (hi0 (x:=K) (by omega));have cH:=hid (hi0 (x:=H) (by omega));have cS:=hid (hi0 (x:=S) (by omega));clear hm hn0 r7 r8 hshort;have rc0:=RCells.new w ⟨O,B',I,⟨K,H,S⟩,s,D⟩ (.slice A n c) 73;have bb0:Below w.heap.size w (w.alloc (.cells #[.int .i64 O,.int .i64 B',.int .i64 I,.int .i64 K,.int .i64 H,.int .i64 S,.int .u32 (s.toNat:Int),.slice A n c] 73)):=(Below.refl _ _).alloc (ZnR _) _;go_enter Tryz.func83,Tryz.ntmps83;go_wp2_with fail;try dsimp only at rc0
  generalize w.alloc (.cells #[.int .i64 O,.int .i64 B',.int .i64 I,.int .i64 K,.int .i64 H,.int .i64 S,.int .u32 (s.toNat:Int),.slice A n c] 73)=w1 at*;have hg1:=rc0.lt;obtain ⟨G,hG⟩:∃ G,G=w1.heap.size:=⟨_,rfl⟩;refine (Zz4a ⟨O,B',I,⟨K,H,S⟩,s,D⟩ A n c true w1 HM.out HMI.out).mono ?_;rintro e w2 ⟨rfl,hb2⟩;rw [← hG] at hg1 hb2;have hG2:G≤w2.heap.size:=by have:=hb2.size;omega
  have RC2:=rc0.keep hb2 hg1;have hsD:=(h.below (bb0.mono hB)).below (hb2.mono (show B≤G by omega));have hwG:w.heap.size≤G:=by omega
  have hbw:=bb0.trans (hb2.mono hwG);clear rc0 bb0 hb2 hG h;have HRC:=hid RC2;obtain ⟨c0,c1,c2,c3,c4,c5,c6,c7⟩:=RC2;try dsimp only at c0 c1 c2 c3 c4 c5 c6 c7
  have h3b:=hid (show [hiB K 0,hiB H 0,hiB S 0].map bv8= [.int .u8 K,.int .u8 H,.int .u8 S] by simp [cK.out,cH.out,cS.out]);go_wp2_with fail;refine (Zz3s G none 0 0 ([]) O 3 _ 3 (highL 3 O) (by omega) rfl (World.ownsRow_nil _ _ _ _) (by omega) (by omega) (by omega) (by omega)).mono ?_;rintro e w3 ⟨A3,cc3,rfl,o3,b3⟩;have hG3:G≤w3.heap.size:=by have:=b3.size;omega
  have RC3:=HRC.out.keep b3 hg1;have hsD3:=hsD.below (b3.mono (show B≤G by omega));have hbw3:=hbw.trans (b3.mono hwG);clear b3 HRC c0 c1 c2 c3 c4 c5 c6 c7 hsD hbw ;have HRC:=hid RC3;obtain ⟨c0,c1,c2,c3,c4,c5,c6,c7⟩:=RC3;try dsimp only at c0 c1 c2 c3 c4 c5 c6 c7
  go_wp2_with fail;refine (Zz3s G A3 3 cc3 (highL 3 O) B' 1 _ 4 (highL 3 O++highL 1 B') (by omega) rfl o3 (by omega) (by omega) (by omega) (by omega)).mono ?_;rintro e w4 ⟨A4,cc4,rfl,o4,b4⟩;have hG4:G≤w4.heap.size:=by have:=b4.size;omega
  have RC4:=HRC.out.keep b4 hg1;have hsD4:=hsD3.below (b4.mono (show B≤G by omega));have hbw4:=hbw3.trans (b4.mono hwG);clear b4 HRC c0 c1 c2 c3 c4 c5 c6 c7 hsD3 hbw3 o3;have HRC:=hid RC4;obtain ⟨c0,c1,c2,c3,c4,c5,c6,c7⟩:=RC4;try dsimp only at c0 c1 c2 c3 c4 c5 c6 c7
  go_wp2_with fail;refine (Zz3s G A4 4 cc4 (highL 3 O++highL 1 B') I 2 _ 6 (highL 3 O++highL 1 B'++highL 2 I) (by omega) rfl o4 (by omega) (by omega) (by omega) (by omega)).mono ?_;rintro e w5 ⟨A5,cc5,rfl,o5,b5⟩;have hG5:G≤w5.heap.size:=by have:=b5.size;omega
  have RC5:=HRC.out.keep b5 hg1;have hsD5:=hsD4.below (b5.mono (show B≤G by omega));have hbw5:=hbw4.trans (b5.mono hwG);clear b5 HRC c0 c1 c2 c3 c4 c5 c6 c7 hsD4 hbw4 o4;have HRC:=hid RC5;obtain ⟨c0,c1,c2,c3,c4,c5,c6,c7⟩:=RC5;try dsimp only at c0 c1 c2 c3 c4 c5 c6 c7
  go_wp2_with (at_builtin;go_must (refine Zz03 rfl (.tmp 18) (.tmp 31) 33 rfl G 5 i0 (.int .u8 0) 1 1 Tryz.underlying33 hi hz0 hz1 hz2 rfl (by omega) (.slice A5 6 cc5) 6 _ rfl (o5.alloc _) _ _ 3 3 _ rfl (Sl.fresh _ _ _ _ 3 rfl) (by simp [Value.oneCell']) 9 (by omega) ((highL 3 O++highL 1 B'++highL 2 I++ [hiB K 0,hiB H 0,hiB S 0]).map bv8) (by rw [← h3b.out,← List.map_append]) (by omega) (by omega) (by simp;omega) ?_);intro A6 cc6 w6 o6 g6 _;have b6:Below G w5 w6:=Zz04 ((Below.refl _ _).alloc hG5 _) (o5.alloc _) g6 (ZnR _) (by simp;omega);have RC6:=HRC.out.keep b6 hg1;obtain ⟨d0,d1,d2,d3,d4,d5,d6,d7⟩:=RC6;try dsimp only at d0 d1 d2 d3 d4 d5 d6 d7)
  have hG6:G≤w6.heap.size:=by have:=b6.size;omega
  have RC6:=HRC.out.keep b6 hg1;have hsD6:=hsD5.below (b6.mono (show B≤G by omega));have hbw6:=hbw5.trans (b6.mono hwG);clear d0 d1 d2 d3 d4 d5 d6 d7 g6 b6 HRC c0 c1 c2 c3 c4 c5 c6 c7 hsD5 hbw5 o5;have HRC:=hid RC6;obtain ⟨c0,c1,c2,c3,c4,c5,c6,c7⟩:=RC6;try dsimp only at c0 c1 c2 c3 c4 c5 c6 c7
  refine (Zz3s G A6 9 cc6 (highL 3 O++highL 1 B'++highL 2 I++ [hiB K 0,hiB H 0,hiB S 0]) (s.toNat:Int) 4 _ 13 (highL 3 O++highL 1 B'++highL 2 I++ [hiB K 0,hiB H 0,hiB S 0]++highL 4 (s.toNat:Int)) (by omega) rfl o6 (by omega) (by omega) (by omega) (by omega)).mono ?_;rintro e w7 ⟨A7,cc7,rfl,o7,b7⟩;have hG7:G≤w7.heap.size:=by have:=b7.size;omega
  have RC7:=HRC.out.keep b7 hg1;have hsD7:=hsD6.below (b7.mono (show B≤G by omega));have hbw7:=hbw6.trans (b7.mono hwG);clear b7 HRC c0 c1 c2 c3 c4 c5 c6 c7 hsD6 hbw6 o6;have HRC:=hid RC7;obtain ⟨c0,c1,c2,c3,c4,c5,c6,c7⟩:=RC7;try dsimp only at c0 c1 c2 c3 c4 c5 c6 c7
  have hfin:=hid (show (recB ⟨O,B',I,⟨K,H,S⟩,s,D⟩).map bv8=(highL 3 O++highL 1 B'++highL 2 I++ [hiB K 0,hiB H 0,hiB S 0]++highL 4 (s.toNat:Int)).map bv8++D.map bv8 by rw [← List.map_append];rfl);go_wp2_with (at_builtin;go_must (refine Zz03 rfl (.tmp 38) (.tmp 40) 33 rfl G 5 i0 (.int .u8 0) 1 1 Tryz.underlying33 hi hz0 hz1 hz2 rfl (by omega) (.slice A7 13 cc7) 13 _ rfl o7 B A n c _ rfl hsD7 (Zz0v _) (13+n) (by omega) ((recB ⟨O,B',I,⟨K,H,S⟩,s,D⟩).map bv8) hfin.out.symm (by omega) (by omega) hG7 ?_);intro A8 cc8 w8 o8 g8 _)
  have b8:Below G w7 w8:=Zz04 (Below.refl _ _) o7 g8 (ZnR _) hG7;have hG8:G≤w8.heap.size:=by have:=b8.size;omega
  have hbw8:=hbw7.trans (b8.mono hwG);refine (Zzba 1 w8.heap.size A8 (recB ⟨O,B',I,⟨K,H,S⟩,s,D⟩) (13+n) cc8 w8 (by omega) (Sl.own o8) (ZnR _) (by omega)).mono ?_;rintro e w9 ⟨v,rfl,hv,hb9⟩;rw [hpl.out] at hv;have hv2:OB w.heap.size w9 v L:=Zz0b hv (by omega);go_wp2_with fail;go_ret
  exact ⟨_,rfl,hv2,hbw8.trans (hb9.mono (by omega))⟩
end Go.Proofs.YtnknjeipfjdjoaaGreatDoor
namespace Wells
open Go Go.RowKit
def pageH (q k t:Int) (n:Nat):List Byte:=highL 4 q++ [hiB k 0,hiB t 0,hiB n 0]
theorem Zzde {q k t:Int} {n:Nat} (hq:0≤q∧q < 4294967296) (hk:0≤k∧k < 256) (ht:0≤t∧t < 256) (hn:n≤48):
  (pageH q k t n).map bv8= [.int .u8 (q / 16777216),.int .u8 (q / 65536 % 256),.int .u8 (q / 256 % 256),.int .u8 (q % 256),.int .u8 k,.int .u8 t,.int .u8 (n:Int)]:=by
 have e3:bv8 (hiB q 3)= .int .u8 (q / 16777216):=by unfold bv8;rw [Zz0p];congr 1;show q / 16777216 % 256=q / 16777216;omega
 have e2:bv8 (hiB q 2)= .int .u8 (q / 65536 % 256):=by unfold bv8;rw [Zz0p];rfl
 have e1:bv8 (hiB q 1)= .int .u8 (q / 256 % 256):=by unfold bv8;rw [Zz0p];rfl
 have e0:bv8 (hiB q 0)= .int .u8 (q % 256):=by unfold bv8;rw [Zz0p];simp
 have ek:=hi0 hk;have et:=hi0 ht;have en:=hi0 (x:=(n:Int)) (by omega);unfold pageH;simp only [highL,List.map_append,List.map_cons,List.map_nil,List.cons_append,List.nil_append,e3,e2,e1,e0,ek,et,en]
end Wells
namespace Go.Proofs.YtnknjeipfjdjoaaGreatDoor
open Go.RowKit Wells
theorem Zzgz (q k t:Int) (B:Nat) (A:Option Addr) (l:List Byte) (n c:Nat) (w:World) (hq:0≤q∧q < 4294967296) (hk:0≤k∧k < 256) (ht:0≤t∧t < 256) (h:Sl w B 1 A n (l.map bv8)) (hB:B≤w.heap.size) (hn:n≤48):
  Calls Tryz.prog 66 #[.int .i64 q,.int .i64 k,.int .i64 t,.slice A n c] w fun e w'=>∃ v,e= .returned v∧OB w.heap.size w' v (cellL 2 (pageH q k t n++l))∧Below w.heap.size w w':=by
 obtain ⟨i0,hi,hz0,hz1,hz2⟩:=info_parts infoB;have hv:=Zzde hq hk ht hn;have hpl:(pageH q k t n).length=7:=by have:=congrArg List.length hv;simpa using this
 have r1:=Row.new w 5 #[.int .u8 (q / 16777216),.int .u8 (q / 65536 % 256),.int .u8 (q / 256 % 256),.int .u8 (q % 256),.int .u8 k,.int .u8 t,.int .u8 (n:Int)];have b1:Below w.heap.size w (w.alloc (.cells #[.int .u8 (q / 16777216),.int .u8 (q / 65536 % 256),.int .u8 (q / 256 % 256),.int .u8 (q % 256),.int .u8 k,.int .u8 t,.int .u8 (n:Int)] 5)):=(Below.refl _ _).alloc (ZnR _) _;have r2:Row (w.alloc (.cells #[.int .u8 (q / 16777216),.int .u8 (q / 65536 % 256),.int .u8 (q / 256 % 256),.int .u8 (q % 256),.int .u8 k,.int .u8 t,.int .u8 (n:Int)] 5)) w.heap.size 5 ((pageH q k t n).map bv8):=by rw [hv];exact r1
 have o1:=Row.own (base:=w.heap.size) (size:=1) (n:=7) (cap:=7) r2 (ZnR _) (ZnR _) (by unfold maxLen;omega) (by simp [hpl]);rw [ZtL (by simp [hpl])] at o1;have hs1:=h.below (b1.mono hB);have HO1:=hid o1;have HS1:=hid hs1;have HB1:=hid b1;have hz:=b1.size;clear r1 r2 o1 hs1 b1 hv;go_enter Tryz.func66,Tryz.ntmps66;go_wp2_with (at_builtin;go_must (refine Zz03 rfl (.tmp 29) (.tmp 30) 33 rfl w.heap.size 5 i0 (.int .u8 0) 1 1 Tryz.underlying33 hi hz0 hz1 hz2 rfl (by omega) (.slice (some ⟨w.heap.size,0,none⟩) 7 7) 7 _ rfl HO1.out B A n c _ rfl HS1.out (Zz0v _) (7+n) (by omega) ((pageH q k t n++l).map bv8) (by rw [List.map_append]) (by omega) (by omega) hz ?_);intro A8 c8 w8 o8 g8 _)
 have b8:Below w.heap.size w w8:=Zz04 HB1.out HO1.out g8 (ZnR _) hz;have HL8:=hid (show (pageH q k t n++l).length=7+n by rw [List.length_append,hpl];have:=h.len;simp at this;omega);have hs8:Sl w8 w8.heap.size 1 A8 (7+n) ((pageH q k t n++l).map bv8):=Sl.own o8;have HB8:=hid b8;refine (Zzba 2 w8.heap.size A8 (pageH q k t n++l) (7+n) c8 w8 (by omega) hs8 (ZnR _) (by omega)).mono ?_;rintro e w9 ⟨v,rfl,o9,b9⟩;have HO9:=hid o9;have HB9:=hid b9;clear o9 b9 o8 g8 b8 hs8;go_wp2_with fail;go_ret
 exact ⟨v,rfl,Zz0b HO9.out HB8.out.size,HB8.out.trans (HB9.out.mono HB8.out.size)⟩
end Go.Proofs.YtnknjeipfjdjoaaGreatDoor
namespace Wells
open Go Go.RowKit
def pageN (p:List Byte):Nat:=(p.length+47) / 48
def pageD (p:List Byte) (j:Nat):List Byte:=(p.drop (48*j)).take 48
def pageC (q:Int) (p:List Byte) (j:Nat):List Byte:=cellL 2 (pageH q j (pageN p) (pageD p j).length++pageD p j)
def pagesL (q:Int) (p:List Byte):List (List Byte):=(List.range (pageN p)).map (pageC q p)
theorem Zz0n (q:Int) (p:List Byte):(pagesL q p).length=pageN p:=by simp [pagesL]
theorem Zz3g (p:List Byte) (j:Nat):(pageD p j).length=min (p.length - 48*j) 48:=by unfold pageD;simp;omega
end Wells
namespace Go.Proofs.YtnknjeipfjdjoaaGreatDoor
open Go.RowKit Wells
def tkV (t:Option (Byte×List Byte)):Value:= .int .i64 (((t.getD (0#8, [])).1.toNat:Nat):Int)
theorem Zzb4 (B:Nat) (A:Option Addr) (l:List Byte) (n c:Nat) (w:World) (h:Sl w B 1 A n (l.map bv8)) (hB:B≤w.heap.size) (hn:n≤1048576) (hc:n≤c) (hc2:c≤9223372036854775807):
  Calls Tryz.prog 80 #[.slice A n c] w fun e w'=>∃ v,e= .returned (.tuple #[tkV (takeP l),v,.bool (takeP l).isSome])∧OB w.heap.size w' v ((takeP l).getD (0#8, [])).2∧Below w.heap.size w w':=by
 have hl:l.length=n:=by have:=h.len;simpa using this
 have HL:=hid hl;by_cases h64:n=64
 ·subst h64
  obtain ⟨b,o,rfl,hbB,hcell⟩:=h.at_ (by omega);obtain ⟨k,hk⟩:∃ k,l.getD 3 0=k:=⟨_,rfl⟩;have hc3:w.cell? ⟨b,o+3,none⟩=some (.int .u8 (k.toNat:Int)):=by
   rw [hcell 3 _ (Zz1l l 3 (by omega)),hk];rfl
  have hkb:=k.isLt;have hsub:Sl w B 1 (some ⟨b,o+4,none⟩) 55 (((l.drop 4).take 55).map bv8):=by
   refine ⟨by simp [hl],fun _=>⟨b,o+4,rfl,hbB,fun j u hu=> ?_⟩⟩;have hj:j < 55:=by
    have:=(List.getElem?_eq_some_iff.1 hu).1
    simp [hl] at this
    omega
   have:=hcell (4+j) u (by rw [← hu];simp [List.getElem?_map,List.getElem?_take,hj,List.getElem?_drop])
   rw [← Nat.add_assoc] at this;exact this
  obtain ⟨x,hx⟩:∃ x,(l.drop 4).take 55=x:=⟨_,rfl⟩;rw [hx] at hsub;have htk:takeP l=if cellL (k.toNat:Int) x=l then some (k,x) else none:=by
   unfold takeP;rw [hk,hx,hl];simp
  have HT:=hid htk;have hxl:x.length=55:=by rw [← hx];simp [hl]
  have HXL:=hid hxl;have hc4:¬ c=4:=by omega
  have hwk:IntKind.i64.wrap (k.toNat:Int)=(k.toNat:Int):=by rw [IntKind.wrap_i64];omega
  have f59:59≤c:=by omega
  have f59i:(59:Int)≤(c:Int):=by omega
  clear hk hx htk hxl hl hcell;go_enter Tryz.func80,Tryz.ntmps80;go_wp2_with fail;go_region_held3 (fun w'=>w'.cell? ⟨b,o+3,none⟩=some (.int .u8 (k.toNat:Int))∧Below w.heap.size w w')
   (first
    | exact ⟨hc3,Zz01 (Below.refl _ _) 1⟩
    | exact ⟨hb1.cell (p:=⟨b,o+3,none⟩) (by show b < _;simp;omega) |>.trans hc3,(Zz01 (Below.refl _ _) 1).trans hb1⟩)
   (first
    | (go_at_call 75;refine (Zz3f B _ x 55 _ _ (hsub.below (Zz01 (Below.refl _ _) 1)) (by simp;omega) (by omega)).mono ?_;rintro e w1 ⟨v,rfl,hv1,hb1⟩))
  obtain ⟨Ax,cx,rfl,hcx1,hcx2,sx⟩:=hv1.read;rw [HXL.out] at hcx1 sx ⊢;have hb1':Below w.heap.size w w1:=(Zz01 (Below.refl _ _) 1).trans hb1;have hs1:=h.below (hb1'.mono hB);clear ‹w1.cell? _=_∧_›;go_wp2_with fail;refine (Zzba (k.toNat:Int) _ Ax x 55 cx _ (by omega) sx (ZnR _) (by omega)).mono ?_;rintro e w2 ⟨vp,rfl,hvp,hb2⟩;obtain ⟨Ap,cp,rfl,hcp1,hcp2,sp⟩:=hvp.read;have hb2':Below w.heap.size w w2:=hb1'.trans (hb2.mono hb1'.size);have hs2:=h.below (hb2'.mono hB);have hsz2:=hb2'.size;have hv2:=hv1.below (hb2.mono (ZnR _));rw [HXL.out] at hv2;generalize hcl:cellL (k.toNat:Int) x=cl at*;have HCL:=hid hcl;clear hcl;by_cases heq:cl=l
  ·have hT1:takeP l=some (k,x):=by rw [HT.out,if_pos heq]
   have HT1:=hid hT1;have HEQ:=hid heq;clear hT1 heq;go_wp2_with fail;refine (Zz1w true w2.heap.size _ _ l cl _ _ _ _ _ (hs2.mono (by omega)) sp (decide_eq_true HEQ.out.symm)).mono ?_;rintro e w3 ⟨rfl,rfl⟩;go_wp2_with fail;refine bodyPost_ret (v:= .tuple #[.int .i64 (k.toNat:Int),.slice Ax 55 cx,.bool true]) (by simp [results,Tryz.results80,go_sem]) rfl ⟨.slice Ax 55 cx,?_,?_,hb2'⟩
   ·rw [HT1.out];rfl
   ·rw [HT1.out];exact hv2
  ·have hT1:takeP l=none:=by rw [HT.out,if_neg heq]
   have HT1:=hid hT1;have HEQ:=hid heq;clear hT1 heq;go_wp2_with fail;refine (Zz1w false w2.heap.size _ _ l cl _ _ _ _ _ (hs2.mono (by omega)) sp (decide_eq_false (fun e=>HEQ.out e.symm))).mono ?_;rintro e w3 ⟨rfl,rfl⟩;go_wp2_with fail;refine bodyPost_ret (v:= .tuple #[.int .i64 0,.slice none 0 0,.bool false]) (by simp [results,Tryz.results80,go_sem]) rfl ⟨.slice none 0 0,?_,?_,hb2'⟩
   ·rw [HT1.out];rfl
   ·rw [HT1.out];exact World.ownsRow_nil _ _ _ _
 ·have hT1:takeP l=none:=by unfold takeP;rw [if_neg (by omega)]
  have HT1:=hid hT1;clear hT1;have hb64:((n:Int) !=64)=true:=by simp;omega
  go_enter Tryz.func80,Tryz.ntmps80;go_wp2_with fail;refine bodyPost_ret (v:= .tuple #[.int .i64 0,.slice none 0 0,.bool false]) (by simp [results,Tryz.results80,go_sem]) rfl ⟨.slice none 0 0,?_,?_,Below.refl _ _⟩
  ·rw [HT1.out];rfl
  ·rw [HT1.out];exact World.ownsRow_nil _ _ _ _
def RHeld (w0:World) (B g:Nat) (r:Rec) (d:Value) (w:World):Prop:=w.cell? ⟨g,0,none⟩=some (.int .i64 r.O)∧w.cell? ⟨g,1,none⟩=some (.int .i64 r.B)∧w.cell? ⟨g,2,none⟩=some (.int .i64 r.I)∧w.cell? ⟨g,3,none⟩=some (.int .i64 r.P.K)∧w.cell? ⟨g,4,none⟩=some (.int .i64 r.P.H)∧w.cell? ⟨g,5,none⟩=some (.int .i64 r.P.S)∧w.cell? ⟨g,6,none⟩=some (.int .u32 (r.S.toNat:Int))∧w.cell? ⟨g,7,none⟩=some d∧Below B w0 w
theorem RHeld.b {w0 w:World} {B g:Nat} {r:Rec} {d:Value} (h:RHeld w0 B g r d w):Below B w0 w:=h.2.2.2.2.2.2.2.2
theorem RHeld.cells {w0 w:World} {B g:Nat} {r:Rec} {d:Value} (h:RHeld w0 B g r d w):RCells w g r d:=⟨h.1,h.2.1,h.2.2.1,h.2.2.2.1,h.2.2.2.2.1,h.2.2.2.2.2.1,h.2.2.2.2.2.2.1,h.2.2.2.2.2.2.2.1⟩
theorem RHeld.of {w0 w:World} {B g:Nat} {r:Rec} {d:Value} (h:RCells w g r d) (hb:Below B w0 w):RHeld w0 B g r d w:=⟨h.1,h.2.1,h.2.2.1,h.2.2.2.1,h.2.2.2.2.1,h.2.2.2.2.2.1,h.2.2.2.2.2.2.1,h.2.2.2.2.2.2.2,hb⟩
theorem RHeld.keep {w0 w w':World} {B g:Nat} {r:Rec} {d:Value} (hb:Below B w w') (h:RHeld w0 B g r d w) (hg:g < B):RHeld w0 B g r d w':= .of (h.cells.keep hb hg) (h.b.trans hb)
theorem RHeld.drew {w0 w:World} {B g:Nat} {r:Rec} {d:Value} (h:RHeld w0 B g r d w):RHeld w0 B g r d w.drew:= .of h.cells (Zz01 h.b 1)
theorem RHeld.draws {w0 w:World} {B g:Nat} {r:Rec} {d:Value} (h:RHeld w0 B g r d w) (n:Nat):RHeld w0 B g r d (w.drewN n):= .of h.cells (Zz01 h.b n)
theorem RHeld.mk_ {w0 w:World} {B g:Nat} {O B' I K H S:Int} {s:BitVec 32} {d:Value} (h:w.cell? ⟨g,0,none⟩=some (.int .i64 O)∧w.cell? ⟨g,1,none⟩=some (.int .i64 B')∧w.cell? ⟨g,2,none⟩=some (.int .i64 I)∧w.cell? ⟨g,3,none⟩=some (.int .i64 K)∧w.cell? ⟨g,4,none⟩=some (.int .i64 H)∧w.cell? ⟨g,5,none⟩=some (.int .i64 S)∧w.cell? ⟨g,6,none⟩=some (.int .u32 (s.toNat:Int))∧w.cell? ⟨g,7,none⟩=some d∧Below B w0 w):RHeld w0 B g ⟨O,B',I,⟨K,H,S⟩,s, []⟩ d w:=h
theorem Zzgq {w:World} {base:Nat} {e:TypeId} {size n:Nat} {v:Value} {xs:List Value} (h:w.ownsRow base e size v n xs):w.drew.ownsRow base e size v n xs:=h
theorem _root_.Wells.Sl.news {w:World} {B b o n:Nat} {xs:List Value} (h:Sl w B 1 (some ⟨b,o,none⟩) n xs) (hn:0 < n):∀ j u,xs[j]? =some u→w.cell? ((⟨b,o,none⟩:Addr).add j)=some u:=by
 intro j u hu;obtain ⟨b',o',e,_,hcc⟩:=h.at_ (by omega);injection e with e;injection e with e1 e2;subst e1 e2;rw [Zz0m];exact hcc j u hu
theorem Zz20 (B:Nat) (r:Rec) (A:Option Addr) (n c:Nat) (w:World) (h:Sl w B 1 A n (r.D.map bv8)) (hB:B≤w.heap.size):
  Calls Tryz.prog 33 #[r.val (.slice A n c)] w fun e w'=>∃ v,e= .returned v∧OB w.heap.size w' v (putR r)∧Below w.heap.size w w':=by
 obtain ⟨i0,hi,hz0,hz1,hz2⟩:=info_parts infoB;obtain ⟨O,B',I,⟨K,H,S⟩,s,D⟩:=r;have hsb:=s.isLt;obtain ⟨L,hL⟩:∃ L,putR ⟨O,B',I,⟨K,H,S⟩,s,D⟩=L:=⟨_,rfl⟩;have HL:=hid hL;clear hL;rw [HL.out];unfold Rec.val;dsimp only at*;have hn0:D.length=n:=by have:=h.len;simpa using this
 have HN:=hid hn0;cases hm:Rec.may ⟨O,B',I,⟨K,H,S⟩,s,D⟩ with
 | false=>
  have HL2:=hid (show []=L by rw [← HL.out];unfold putR;rw [if_neg (by rw [hm];decide)]);rw [← HL2.out];go_enter Tryz.func33,Tryz.ntmps33;go_wp2_with fail;refine (Zz23 ⟨O,B',I,⟨K,H,S⟩,s,D⟩ A n c false _ hn0 hm).mono ?_;rintro e w2 ⟨rfl,hb2⟩;go_wp2_with fail;go_ret
  exact ⟨_,rfl,World.ownsRow_nil _ _ _ _,((Below.refl _ _).alloc (ZnR _) _).trans (hb2.mono (by simp))⟩
 | true=>
  obtain ⟨r1,r2,r3,r4,r5,r6,r7,r8⟩:=Zz7q hm;obtain ⟨k1,k2,k3,k4,k5,k6⟩:=Par.may_ok r7;have hshort:=Zz2n hm;have HSH:=hid hshort;rw [Zz2w] at hshort;dsimp only at r1 r2 r3 r4 r5 r6 r7 r8 k1 k2 k3 k4 k5 k6 hshort;have hn42:n≤42:=by omega
  have hn1:1≤n:=by omega
  have hpl:=hid (show cellL 1 (recB ⟨O,B',I,⟨K,H,S⟩,s,D⟩)=L by rw [← Zz7w hm];exact HL.out);have hlen:=hid (Zz2w ⟨O,B',I,⟨K,H,S⟩,s,D⟩);have HMI:=hid hm;have HM:=hid hn0;have cK:=hid (hi0 (x:=K) (by omega));have cH:=hid (hi0 (x:=H) (by omega));have cS:=hid (hi0 (x:=S) (by omega));clear hm hn0 r7 r8 hshort;have rc0:=RCells.new w ⟨O,B',I,⟨K,H,S⟩,s,D⟩ (.slice A n c) 73;have bb0:Below w.heap.size w (w.alloc (.cells #[.int .i64 O,.int .i64 B',.int .i64 I,.int .i64 K,.int .i64 H,.int .i64 S,.int .u32 (s.toNat:Int),.slice A n c] 73)):=(Below.refl _ _).alloc (ZnR _) _;go_enter Tryz.func33,Tryz.ntmps33;go_wp2_with fail;try dsimp only at rc0
  generalize w.alloc (.cells #[.int .i64 O,.int .i64 B',.int .i64 I,.int .i64 K,.int .i64 H,.int .i64 S,.int .u32 (s.toNat:Int),.slice A n c] 73)=w1 at*;have hg1:=rc0.lt;obtain ⟨G,hG⟩:∃ G,G=w1.heap.size:=⟨_,rfl⟩;refine (Zz23 ⟨O,B',I,⟨K,H,S⟩,s,D⟩ A n c true w1 HM.out HMI.out).mono ?_;rintro e w2 ⟨rfl,hb2⟩;rw [← hG] at hg1 hb2;have hG2:G≤w2.heap.size:=by have:=hb2.size;omega
  have RC2:=rc0.keep hb2 hg1;have hsD:=(h.below (bb0.mono hB)).below (hb2.mono (show B≤G by omega));have hwG:w.heap.size≤G:=by omega
  have hbw:=bb0.trans (hb2.mono hwG);clear rc0 bb0 hb2 hG h;have HRC:=hid RC2;obtain ⟨c0,c1,c2,c3,c4,c5,c6,c7⟩:=RC2;try dsimp only at c0 c1 c2 c3 c4 c5 c6 c7
  have h3b:=hid (show [hiB K 0,hiB H 0,hiB S 0].map bv8= [.int .u8 K,.int .u8 H,.int .u8 S] by simp [cK.out,cH.out,cS.out]);obtain ⟨db,dof,rfl,_⟩:=hsD.at_ (by omega);go_wp2_with fail;go_region_held3 (fun w'=>w'.cell? ⟨w.heap.size,0,none⟩=some (.int .i64 O)∧w'.cell? ⟨w.heap.size,1,none⟩=some (.int .i64 B')∧w'.cell? ⟨w.heap.size,2,none⟩=some (.int .i64 I)∧w'.cell? ⟨w.heap.size,3,none⟩=some (.int .i64 K)∧w'.cell? ⟨w.heap.size,4,none⟩=some (.int .i64 H)∧w'.cell? ⟨w.heap.size,5,none⟩=some (.int .i64 S)∧w'.cell? ⟨w.heap.size,6,none⟩=some (.int .u32 (s.toNat:Int))∧w'.cell? ⟨w.heap.size,7,none⟩=some (.slice (some ⟨db,dof,none⟩) n c)∧Below G w2 w')
   (first
   | exact RHeld.drew (r:=⟨O,B',I,⟨K,H,S⟩,s,D⟩) ⟨c0,c1,c2,c3,c4,c5,c6,c7,Below.refl _ _⟩
   | exact RHeld.drew (r:=⟨O,B',I,⟨K,H,S⟩,s,D⟩) (by assumption)
   | exact RHeld.keep (r:=⟨O,B',I,⟨K,H,S⟩,s,D⟩) b3 (by assumption) hg1
   | exact RHeld.keep (r:=⟨O,B',I,⟨K,H,S⟩,s,D⟩) b4 (by assumption) hg1
   | exact RHeld.keep (r:=⟨O,B',I,⟨K,H,S⟩,s,D⟩) b5 (by assumption) hg1
   | exact RHeld.draws (r:=⟨O,B',I,⟨K,H,S⟩,s,D⟩) (by assumption) _)
   (first
    | (go_at_call 70;have hh0:= ‹_∧_∧_∧_∧_∧_∧_∧_∧Below G w2 _›;have hh:=RHeld.mk_ hh0;clear hh0;have hhs:=hh.b.size;first | (refine (Zz6k G A4 4 cc4 (highL 3 O++highL 1 B') I 2 _ 6 (highL 3 O++highL 1 B'++highL 2 I) (by omega) rfl o4 (by omega) (by omega) (by omega) (by omega)).mono ?_;rintro e w5 ⟨A5,cc5,rfl,o5,b5⟩) | (refine (Zz6k G A3 3 cc3 (highL 3 O) B' 1 _ 4 (highL 3 O++highL 1 B') (by omega) rfl o3 (by omega) (by omega) (by omega) (by omega)).mono ?_;rintro e w4 ⟨A4,cc4,rfl,o4,b4⟩) | (refine (Zz6k G none 0 0 ([]) O 3 _ 3 (highL 3 O) (by omega) rfl (World.ownsRow_nil _ _ _ _) (by omega) (by omega) (by omega) (by omega)).mono ?_;rintro e w3 ⟨A3,cc3,rfl,o3,b3⟩)))
  have hh0:= ‹_∧_∧_∧_∧_∧_∧_∧_∧Below G w2 w5›;have hh5:=RHeld.mk_ hh0;clear hh0;have hG5:G≤w5.heap.size:=by have:=hh5.b.size;omega
  have hsD5:=hsD.below (hh5.b.mono (show B≤G by omega));have hbw5:=hbw.trans (hh5.b.mono hwG);clear c0 c1 c2 c3 c4 c5 c6 c7 HRC b3 b4 b5 hsD hbw o3 o4;have HRC:=hid hh5.cells;obtain ⟨c0,c1,c2,c3,c4,c5,c6,c7⟩:=hh5.cells;try dsimp only at c0 c1 c2 c3 c4 c5 c6 c7
  clear hh5;clear ‹_∧_∧_∧_∧_∧_∧_∧_∧Below G w2 w5›
  go_wp2_with (at_builtin;go_must (refine Zz03 rfl (.tmp 16) (.tmp 29) 33 rfl G 5 i0 (.int .u8 0) 1 1 Tryz.underlying33 hi hz0 hz1 hz2 rfl (by omega) (.slice A5 6 cc5) 6 _ rfl (o5.alloc _) _ _ 3 3 _ rfl (Sl.fresh _ _ _ _ 3 rfl) (by simp [Value.oneCell']) 9 (by omega) ((highL 3 O++highL 1 B'++highL 2 I++ [hiB K 0,hiB H 0,hiB S 0]).map bv8) (by rw [← h3b.out,← List.map_append]) (by omega) (by omega) (by simp;omega) ?_);intro A6 cc6 w6 o6 g6 _;have b6:Below G w5 w6:=Zz04 ((Below.refl _ _).alloc hG5 _) (o5.alloc _) g6 (ZnR _) (by simp;omega);have RC6:=HRC.out.keep b6 hg1;obtain ⟨d0,d1,d2,d3,d4,d5,d6,d7⟩:=RC6;try dsimp only at d0 d1 d2 d3 d4 d5 d6 d7)
  have hG6:G≤w6.heap.size:=by have:=b6.size;omega
  have RC6:=HRC.out.keep b6 hg1;have hsD6:=hsD5.below (b6.mono (show B≤G by omega));have hbw6:=hbw5.trans (b6.mono hwG);clear d0 d1 d2 d3 d4 d5 d6 d7 g6 b6 HRC c0 c1 c2 c3 c4 c5 c6 c7 hsD5 hbw5 o5;have HRC:=hid RC6;obtain ⟨c0,c1,c2,c3,c4,c5,c6,c7⟩:=RC6;try dsimp only at c0 c1 c2 c3 c4 c5 c6 c7
  have hfin:=hid (show (recB ⟨O,B',I,⟨K,H,S⟩,s,D⟩).map bv8=(highL 3 O++highL 1 B'++highL 2 I++ [hiB K 0,hiB H 0,hiB S 0]++highL 4 (s.toNat:Int)).map bv8++D.map bv8 by rw [← List.map_append];rfl);have hDl:(D.map bv8).length=n*1:=by rw [List.length_map,HM.out];omega
  have hrl:=hid (show (recB ⟨O,B',I,⟨K,H,S⟩,s,D⟩).length=13+n by rw [hlen.out,HM.out]);have h64s:IntKind.i64.wrap (s.toNat:Int)=(s.toNat:Int):=by rw [IntKind.wrap_i64];omega
  go_wp2_with fail;go_region_held3 (fun w'=>w'.cell? ⟨w.heap.size,0,none⟩=some (.int .i64 O)∧w'.cell? ⟨w.heap.size,1,none⟩=some (.int .i64 B')∧w'.cell? ⟨w.heap.size,2,none⟩=some (.int .i64 I)∧w'.cell? ⟨w.heap.size,3,none⟩=some (.int .i64 K)∧w'.cell? ⟨w.heap.size,4,none⟩=some (.int .i64 H)∧w'.cell? ⟨w.heap.size,5,none⟩=some (.int .i64 S)∧w'.cell? ⟨w.heap.size,6,none⟩=some (.int .u32 (s.toNat:Int))∧w'.cell? ⟨w.heap.size,7,none⟩=some (.slice (some ⟨db,dof,none⟩) n c)∧Below G w6 w')
   (first
   | exact RHeld.drew (r:=⟨O,B',I,⟨K,H,S⟩,s,D⟩) ⟨c0,c1,c2,c3,c4,c5,c6,c7,Below.refl _ _⟩
   | exact RHeld.drew (r:=⟨O,B',I,⟨K,H,S⟩,s,D⟩) (by assumption)
   | exact RHeld.keep (r:=⟨O,B',I,⟨K,H,S⟩,s,D⟩) b7 (by assumption) hg1
   | exact RHeld.keep (r:=⟨O,B',I,⟨K,H,S⟩,s,D⟩) b8 (by assumption) hg1
   | exact RHeld.keep (r:=⟨O,B',I,⟨K,H,S⟩,s,D⟩) b9 (by assumption) hg1
   | exact RHeld.draws (r:=⟨O,B',I,⟨K,H,S⟩,s,D⟩) (by assumption) _)
   (first
    | (go_at_call 70;have hh0:= ‹_∧_∧_∧_∧_∧_∧_∧_∧Below G w6 _›;have hh:=RHeld.mk_ hh0;clear hh0;have hhs:=hh.b.size;(refine (Zz6k G A6 9 cc6 (highL 3 O++highL 1 B'++highL 2 I++ [hiB K 0,hiB H 0,hiB S 0]) (s.toNat:Int) 4 _ 13 (highL 3 O++highL 1 B'++highL 2 I++ [hiB K 0,hiB H 0,hiB S 0]++highL 4 (s.toNat:Int)) (by omega) rfl (Zzgq o6) (by omega) (by omega) (by omega) (by omega)).mono ?_;rintro e w7 ⟨A7,cc7,rfl,o7,b7⟩))
    | (refine step_append_lies _ rfl (.tmp 35) (.tmp 37) 33 rfl G 5 i0 (.int .u8 0) 1 1 Tryz.underlying33 hi hz0 hz1 hz2 rfl (by omega) (.slice A7 13 cc7) 13 _ rfl o7 ⟨db,dof,none⟩ n c (D.map bv8) rfl hDl ((hsD6.drew.below (b7.mono (show B≤G by omega))).news (by omega)) (Zz0v _) (by omega) (by unfold maxLen;omega) (by omega) (ZnT hG6 b7.size) _ rfl ?_;intro g8 cc8 w8 o8 gr8 _ _;have b8:Below G w7 w8:=Zz04 (Below.refl _ _) o7 gr8 (ZnR _) (ZnT hG6 b7.size))
    | (go_at_call 35;rw [← hfin.out] at o8;refine (Zz2r 1 _ _ (recB ⟨O,B',I,⟨K,H,S⟩,s,D⟩) (13+n) cc8 _ (by omega) (Sl.own o8) (ZnR _) (by omega)).mono ?_;rintro e w9 ⟨v,rfl,hv,hb9⟩;have b9:Below G w8 w9:=hb9.mono (ZnT (ZnT hG6 b7.size) b8.size)))
  have hh0:= ‹_∧_∧_∧_∧_∧_∧_∧_∧Below G w6 w9›;have hh9:=RHeld.mk_ hh0;have bb:=hbw6.trans (hh9.b.mono hwG);rw [hpl.out] at hv;have hG8:w.heap.size≤w8.heap.size:=ZnT hwG (ZnT (ZnT hG6 b7.size) b8.size);have hv2:OB w.heap.size w9 v L:=Zz0b hv hG8;clear hh9 hh0;go_wp2_with fail;go_ret
  exact ⟨_,rfl,hv2,bb⟩
theorem Zz9r (r q:Rec) (A A':Option Addr) (n n' c c':Nat) (b:Bool) (B:Nat) (w:World) (h:Sl w B 1 A n (r.D.map bv8)) (h':Sl w B 1 A' n' (q.D.map bv8)) (hB:B≤w.heap.size) (hn:n≤1048576) (hn':n'≤1048576) (hb:decide (r=q)=b):
  Calls Tryz.prog 42 #[r.val (.slice A n c),q.val (.slice A' n' c')] w fun e w'=>e= .returned (.bool b)∧Below w.heap.size w w':=by
 obtain ⟨O,B1,I,⟨K,H,S⟩,s,D⟩:=r;obtain ⟨O',B1',I',⟨K',H',S'⟩,s',D'⟩:=q;unfold Rec.val;have HB:=hid hb;have hbi:=s.isLt;have hbi':=s'.isLt;clear hb;dsimp only at*;go_enter Tryz.func42,Tryz.ntmps42;go_wp2_with fail;all_goals try (go_ret;exact ⟨Zz0a (by
  rw [← HB.out];refine (decide_eq_false fun e=> ?_).symm;simp only [Rec.mk.injEq,Par.mk.injEq] at e;obtain ⟨e1,e2,e3,⟨e4,e5,e6⟩,e7,e8⟩:=e;have e9:=congrArg BitVec.toNat e7;omega),((Below.refl _ _).alloc (ZnR _) _).alloc (by simp) _⟩)
 have hO:O=O':=by assumption
 have hBB:B1=B1':=by assumption
 have hI:I=I':=by assumption
 have hK:K=K':=by assumption
 have hH:H=H':=by assumption
 have hS:S=S':=by assumption
 have hs:s=s':=BitVec.eq_of_toNat_eq (by omega);subst hO hBB hI hK hH hS hs;have hb2:Below w.heap.size w ((w.alloc (.cells #[.int .i64 O,.int .i64 B1,.int .i64 I,.int .i64 K,.int .i64 H,.int .i64 S,.int .u32 (s.toNat:Int),.slice A n c] 73)).alloc (.cells #[.int .i64 O,.int .i64 B1,.int .i64 I,.int .i64 K,.int .i64 H,.int .i64 S,.int .u32 (s.toNat:Int),.slice A' n' c'] 73)):=((Below.refl _ _).alloc (ZnR _) _).alloc (by simp) _
 generalize ((w.alloc (.cells #[.int .i64 O,.int .i64 B1,.int .i64 I,.int .i64 K,.int .i64 H,.int .i64 S,.int .u32 (s.toNat:Int),.slice A n c] 73)).alloc (.cells #[.int .i64 O,.int .i64 B1,.int .i64 I,.int .i64 K,.int .i64 H,.int .i64 S,.int .u32 (s.toNat:Int),.slice A' n' c'] 73))=w2 at*;have hDD:decide (D=D')=b:=by rw [← HB.out];simp
 refine (Zz2m b B _ _ D D' _ _ _ _ _ (h.below (hb2.mono hB)) (h'.below (hb2.mono hB)) (by omega) (by omega) hDD).mono ?_;rintro e w3 ⟨rfl,d,rfl⟩;have hb3:=Zz01 hb2 d;clear hDD hb2;go_wp2_with fail;go_ret
 exact ⟨rfl,hb3⟩
theorem Zz4k (B:Nat) (A:Option Addr) (l:List Byte) (n c:Nat) (w:World) (h:Sl w B 1 A n (l.map bv8)) (hB:B≤w.heap.size) (hn:n≤1048576) (hc:n≤c) (hc2:c≤9223372036854775807):
  Calls Tryz.prog 91 #[.slice A n c] w fun e w'=>∃ v,e= .returned (.tuple #[tkV (takeP l),v,.bool (takeP l).isSome])∧OB w.heap.size w' v ((takeP l).getD (0#8, [])).2∧Below w.heap.size w w':=by
 have hl:l.length=n:=by have:=h.len;simpa using this
 have HL:=hid hl;obtain ⟨i0,hi,hz0,hz1,hz2⟩:=info_parts infoB;by_cases h64:n=64
 ·subst h64
  obtain ⟨b,o,rfl,hbB,hcell⟩:=h.at_ (by omega);obtain ⟨k,hk⟩:∃ k,l.getD 3 0=k:=⟨_,rfl⟩;have hc3:w.cell? ⟨b,o+3,none⟩=some (.int .u8 (k.toNat:Int)):=by
   rw [hcell 3 _ (Zz1l l 3 (by omega)),hk];rfl
  have hkb:=k.isLt;have hsub:Sl w B 1 (some ⟨b,o+4,none⟩) 55 (((l.drop 4).take 55).map bv8):=by
   refine ⟨by simp [hl],fun _=>⟨b,o+4,rfl,hbB,fun j u hu=> ?_⟩⟩;have hj:j < 55:=by
    have:=(List.getElem?_eq_some_iff.1 hu).1
    simp [hl] at this
    omega
   have:=hcell (4+j) u (by rw [← hu];simp [List.getElem?_map,List.getElem?_take,hj,List.getElem?_drop])
   rw [← Nat.add_assoc] at this;exact this
  obtain ⟨x,hx⟩:∃ x,(l.drop 4).take 55=x:=⟨_,rfl⟩;rw [hx] at hsub;have htk:takeP l=if cellL (k.toNat:Int) x=l then some (k,x) else none:=by
   unfold takeP;rw [hk,hx,hl];simp
  have HT:=hid htk;have hxl:x.length=55:=by rw [← hx];simp [hl]
  have HXL:=hid hxl;have hc4:¬ c=4:=by omega
  have hwk:IntKind.i64.wrap (k.toNat:Int)=(k.toNat:Int):=by rw [IntKind.wrap_i64];omega
  have f59:59≤c:=by omega
  have f59i:(59:Int)≤(c:Int):=by omega
  clear hk hx htk hxl hl hcell;go_enter Tryz.func91,Tryz.ntmps91;go_wp2_with fail;have hnews:∀ j u,(x.map bv8)[j]? =some u→w.drew.cell? ((⟨b,o+4,none⟩:Addr).add j)=some u:=by
   intro j u hu;obtain ⟨b',o',e,_,hcc⟩:=hsub.at_ (by omega);injection e with e;injection e with e1 e2;subst e1 e2;rw [Zz0m];exact hcc j u hu
  have hnl:(x.map bv8).length=55*1:=by rw [List.length_map,HXL.out]
  go_region_held3 (fun w'=>w'.cell? ⟨b,o+3,none⟩=some (.int .u8 (k.toNat:Int))∧Below w.heap.size w w')
   (first
    | exact ⟨hc3,Zz01 (Below.refl _ _) 1⟩
    | exact ⟨hb1.cell (p:=⟨b,o+3,none⟩) (by show b < _;simp;omega) |>.trans hc3,(Zz01 (Below.refl _ _) 1).trans hb1⟩)
   (first
    | (refine step_append_lies w.drew rfl (.const (.slice none 0 0)) (.tmp 15) 33 rfl w.heap.size 5 i0 (.int .u8 0) 1 1 Tryz.underlying33 hi hz0 hz1 hz2 rfl (by omega) (.slice none 0 0) 0 [] rfl (World.ownsRow_nil _ _ _ _) ⟨b,o+4,none⟩ 55 (c - 4) (x.map bv8) rfl hnl hnews (Zz0v _) (by omega) (by unfold maxLen;omega) (by omega) (ZnR _) _ rfl ?_;intro g1 c1 w1 o1 gr1 _ _;have hb1:Below w.drew.heap.size w.drew w1:=Zz04 (Below.refl _ _) (World.ownsRow_nil w.drew w.heap.size 5 1) gr1 (ZnR _) (ZnR _)))
  have hv1:OB w.heap.size w1 (.slice (some ⟨g1,0,none⟩) x.length c1) x:=by unfold OB;rw [HXL.out];exact o1
  generalize (some (⟨g1,0,none⟩:Addr))=Ax at*;obtain ⟨_,cx,e,hcx1,hcx2,sx⟩:=hv1.read;injection e with e1 _ e2;subst e1 e2;rw [HXL.out] at hcx1 sx;have hb1':Below w.heap.size w w1:=(Zz01 (Below.refl _ _) 1).trans hb1;have hs1:=h.below (hb1'.mono hB);clear ‹w1.cell? _=_∧_›;go_wp2_with fail;refine (Zz2r (k.toNat:Int) _ Ax x 55 c1 _ (by omega) sx (ZnR _) (by omega)).mono ?_;rintro e w2 ⟨vp,rfl,hvp,hb2⟩;obtain ⟨Ap,cp,rfl,hcp1,hcp2,sp⟩:=hvp.read;have hb2':Below w.heap.size w w2:=hb1'.trans (hb2.mono hb1'.size);have hs2:=h.below (hb2'.mono hB);have hsz2:=hb2'.size;have hv2:=hv1.below (hb2.mono (ZnR _));rw [HXL.out] at hv2;have hcl64:(cellL (k.toNat:Int) x).length≤64:=by rw [Zz3r];split <;> omega
  generalize hcl:cellL (k.toNat:Int) x=cl at*;have HCL:=hid hcl;clear hcl;by_cases heq:cl=l
  ·have hT1:takeP l=some (k,x):=by rw [HT.out,if_pos heq]
   have HT1:=hid hT1;have HEQ:=hid heq;clear hT1 heq;go_wp2_with fail;refine (Zz2m true w2.heap.size _ _ cl l _ _ _ _ _ sp (hs2.mono (by omega)) (by omega) (by omega) (decide_eq_true HEQ.out)).mono ?_;rintro e w3 ⟨rfl,d,rfl⟩;go_wp2_with fail;refine bodyPost_ret (v:= .tuple #[.int .i64 (k.toNat:Int),.slice Ax 55 c1,.bool true]) (by simp [results,Tryz.results91,go_sem]) rfl ⟨.slice Ax 55 c1,?_,?_,Zz01 hb2' d⟩
   ·rw [HT1.out];rfl
   ·rw [HT1.out];exact hv2
  ·have hT1:takeP l=none:=by rw [HT.out,if_neg heq]
   have HT1:=hid hT1;have HEQ:=hid heq;clear hT1 heq;go_wp2_with fail;refine (Zz2m false w2.heap.size _ _ cl l _ _ _ _ _ sp (hs2.mono (by omega)) (by omega) (by omega) (decide_eq_false HEQ.out)).mono ?_;rintro e w3 ⟨rfl,d,rfl⟩;go_wp2_with fail;refine bodyPost_ret (v:= .tuple #[.int .i64 0,.slice none 0 0,.bool false]) (by simp [results,Tryz.results91,go_sem]) rfl ⟨.slice none 0 0,?_,?_,Zz01 hb2' d⟩
   ·rw [HT1.out];rfl
   ·rw [HT1.out];exact World.ownsRow_nil _ _ _ _
 ·have hT1:takeP l=none:=by unfold takeP;rw [if_neg (by omega)]
  have HT1:=hid hT1;clear hT1;have hb64:((n:Int) !=64)=true:=by simp;omega
  go_enter Tryz.func91,Tryz.ntmps91;go_wp2_with fail;refine bodyPost_ret (v:= .tuple #[.int .i64 0,.slice none 0 0,.bool false]) (by simp [results,Tryz.results91,go_sem]) rfl ⟨.slice none 0 0,?_,?_,Below.refl _ _⟩
  ·rw [HT1.out];rfl
  ·rw [HT1.out];exact World.ownsRow_nil _ _ _ _
end Go.Proofs.YtnknjeipfjdjoaaGreatDoor
