/- RefSplit -/
import Derived.Test.YtnknjeipfjdjoaaGreatDoorBScanTells43
import Derived.Test.YtnknjeipfjdjoaaGreatDoorBScanTells45
set_option maxHeartbeats 8000000
set_option maxRecDepth 20000
set_option linter.unusedSimpArgs false
set_option linter.unusedVariables false
namespace Go.Proofs.YtnknjeipfjdjoaaGreatDoor
open Go.RowKit Wells
theorem Zz2u {w w':World} {base size n:Nat} {t:TypeId} {v:Value} {xs:List Value} (h:w.ownsRow base t size v n xs) (hb:Below w.heap.size w w'):w'.ownsRow base t size v n xs:=h.kept (Zz02 hb none) (by cases v.ownBlock <;> simp)
theorem Zz1g (m:Mani) (B:Nat) (Ad Ao:Option Addr) (nd cd no co:Nat) (ts:List Value) (w:World) (h:RM w B m Ad nd cd Ao no co ts) (hB:B≤w.heap.size) (h64:M64 m) (hnm:∀ e∈m.objs,e.name.length≤1048576):
  Calls Tryz.prog 32 #[m.val (.slice Ad nd cd) (.slice Ao no co)] w (SplitR m w):=by
 have hb:Below w.heap.size w (w.alloc (.cells #[.int .i64 m.seq,.int .i64 m.next,.int .i64 m.P.K,.int .i64 m.P.H,.int .i64 m.P.S,.int .i64 m.extra,.slice Ad nd cd,.slice Ao no co] 28)):=(Below.refl _ _).alloc (ZnR _) _;have hx:=Row.new w 28 #[.int .i64 m.seq,.int .i64 m.next,.int .i64 m.P.K,.int .i64 m.P.H,.int .i64 m.P.S,.int .i64 m.extra,.slice Ad nd cd,.slice Ao no co];have HR:=hid ((h.below (hb.mono hB)));obtain ⟨x0,x1,x2,x3,x4,x5,x6,x7⟩:=Row.c8 hx;have HX:=hid hx;have HB:=hid hb;have hz:=hb.size;clear hb hx h;unfold Mani.val;go_enter Tryz.func32,Tryz.ntmps32;go_upto_region 1 with fail
 generalize w.alloc (.cells #[.int .i64 m.seq,.int .i64 m.next,.int .i64 m.P.K,.int .i64 m.P.H,.int .i64 m.P.S,.int .i64 m.extra,.slice Ad nd cd,.slice Ao no co] 28)=w1 at*;go_wp2_with fail;refine (Zz4u m B Ad Ao nd cd no co ts w1 HR.out (ZnT hB hz) h64 hnm).mono ?_;rintro e w2 ⟨A1,n,c1,rfl,hn,hn1,ho,hb2⟩;have hc1:n≤c1∧c1≤9223372036854775807:=by
  obtain ⟨_,_,ee,hc2,hc3⟩:=Zz0h ho;injection ee with e1 e2 e3;subst e3;exact ⟨by omega,by omega⟩
 unfold OB at ho;rw [hn] at ho;have HO:=hid ho;have HB2:=hid (HB.out.trans (hb2.mono hz));have HX2:=hid (HX.out.below hb2 HX.out.lt);clear ho hb2 x0 x1 x2 x3 x4 x5 x6 x7;obtain ⟨N,hN⟩:∃ N,pageN (pack m)=N:=⟨_,rfl⟩;have hNi:((n:Int)+48 - 1) / 48=(N:Int):=by rw [← hN];unfold pageN;rw [hn];omega
 have hNn:N=(n+47) / 48:=by rw [← hN];unfold pageN;rw [hn]
 have HN:=hid hN;have hN21:N≤21:=by omega
 have HNN:=hid hNn;clear hNn;clear hN;go_wp2_with fail;rw [hNi];clear hNi;obtain ⟨gm,hgmE⟩:∃ gm,w.heap.size=gm:=⟨_,rfl⟩;try rw [hgmE]
 have HGM:=hid hgmE;clear hgmE;go_loopw [5,6] (fun v i wr=>∃ (k:Nat) (A:Option Addr) (c:Nat) (vs:List Value),k≤N∧v= .slice A k c∧i= .int .i64 (k:Int)∧(k≤c∧c≤9223372036854775807)∧OBs w2.heap.size wr (.slice A k c) vs ((pagesL m.seq (pack m)).take k)∧Below w2.heap.size w2 wr) (fun _ i _=>N - (intOf i).toNat)
 case atStart=>exact ⟨0,none,0, [],Nat.zero_le _,rfl,rfl,by omega,by simpa using OBs.nil_ _ _,Below.refl _ _⟩
 case round=>
  obtain ⟨k,A,c,vs,hk,rfl,rfl,hkc,hobs,hbr⟩:=hrel;have HOBS:=hid hobs;have HBR:=hid hbr;clear hobs hbr;by_cases hlt:k < N
  ·have hlt':(k:Int) < (N:Int):=by omega
   obtain ⟨en,hen,hen1⟩:∃ en:Nat,min (((k:Int)+1)*48) (n:Int)=(en:Int)∧en=min n ((k+1)*48):=by
    refine ⟨min n ((k+1)*48),?_,rfl⟩;omega
   have HEN:=hid hen1;clear hen1;obtain ⟨st,hst⟩:∃ st,48*k=st:=⟨_,rfl⟩;have hk48:st≤en:=by have:=HNN.out;have:=HEN.out;omega
   have hen2:en≤n:=by have:=HEN.out;omega
   have hs1:(st:Int)≤(en:Int):=by omega
   have hs2:(en:Int)≤(n:Int):=by omega
   have hs3:(en:Int)≤(c1:Int):=by have:=hc1.1;omega
   have hks:(k:Int)*48=(st:Int):=by omega
   go_upto_region 8 with fail;have hen':=HEN.out;obtain ⟨Ac,hAc⟩:∃ Ac,(if c1=st then A1 else Option.map (fun x=>x.add st) A1)=Ac:=⟨_,rfl⟩;obtain ⟨Lc,hLc⟩:∃ Lc,en - st=Lc:=⟨_,rfl⟩;obtain ⟨Cc,hCc⟩:∃ Cc,c1 - st=Cc:=⟨_,rfl⟩;rw [hAc,hLc,hCc];have hsl:=(Sl.own HO.out).below HBR.out;have hcut:=hsl.cut (c:=c1) hk48 hen2 (by have:=hc1.1;omega);have hpd:((pack m).drop st).take Lc=pageD (pack m) k:=by
    unfold pageD;rw [hst];have hl:=hn;rcases Nat.le_total n ((k+1)*48) with h1 | h1
    ·rw [ZtL (by simp;omega),ZtL (by simp;omega)]
    ·rw [show Lc=48 by omega]
   simp only [Nat.mul_one] at hcut;rw [hAc,hLc,← List.map_drop,← List.map_take,hpd] at hcut;have hpm:m.may=true:=by
    cases hm:m.may
    ·have:pack m= []:=by unfold pack;rw [hm];rfl
     rw [this] at hn;simp at hn
     have:=HNN.out
     omega
    ·rfl
   have hq:=may_seqS hpm;have hLT:((pagesL m.seq (pack m)).take k).length=k:=by rw [List.length_take,Zz0n,HN.out];omega
   have hLl:(pageD (pack m) k).length=Lc:=by rw [Zz3g];omega
   have hpc:cellL 2 (pageH m.seq k N Lc++pageD (pack m) k)=pageC m.seq (pack m) k:=by
    unfold pageC;rw [HN.out,hLl]
   have htk:(pagesL m.seq (pack m)).take (k+1)=(pagesL m.seq (pack m)).take k++ [pageC m.seq (pack m) k]:=by
    have hl:k < (pagesL m.seq (pack m)).length:=by rw [Zz0n,HN.out];exact hlt
    rw [ZtS hl];simp [pagesL]
   have hrow:=HX2.out.below HBR.out HX2.out.lt;have v0:=hrow.cell 0;simp only [ZgZ] at v0;have hgm:=hrow.lt;rw [HGM.out] at v0 hgm;have hL48:Lc≤48:=by omega
   have hm1:(k:Int) % 256=(k:Int):=by omega
   have hm2:(N:Int) % 256=(N:Int):=by omega
   have hm3:(Lc:Int) % 256=(Lc:Int):=by omega
   have h3: [Value.int .u8 (k:Int),.int .u8 (N:Int),.int .u8 (Lc:Int)]=([hiB (k:Int) 0,hiB (N:Int) 0,hiB (Lc:Int) 0]:List Byte).map bv8:=by
    simp only [List.map_cons,List.map_nil];rw [hi0 (x:=(k:Int)) (by omega),hi0 (x:=(N:Int)) (by omega),hi0 (x:=(Lc:Int)) (by omega)]
   have HSL:=hid hcut;have HLl:=hid hLl;have HLT:=hid hLT;have HPC:=hid hpc;have HTK:=hid htk;have H3:=hid h3;obtain ⟨ibs,hibs,hzb0,hzb1,hzb2⟩:=info_parts infoBs;obtain ⟨i0,hi,hz0,hz1,hz2⟩:=info_parts infoB;have hq64: -9223372036854775808≤m.seq∧m.seq≤9223372036854775807:=by omega
   clear hsl hcut hrow hen' hk48 hst hpd hpm hq hLT hpc htk hAc hLc hCc hs1 hs2 hs3 hks hen hen2 hLl h3;go_wp2_with fail;refine (Zz6k wr.heap.size none 0 0 [] m.seq 4 wr 4 (highL 4 m.seq) rfl rfl (World.ownsRow_nil _ _ _ _) (by omega) (ZnR _) hq64 (by omega)).mono ?_;rintro e w3 ⟨A3,c3,rfl,ho3,hb3⟩;have HO3:=hid ho3;have HB3:=hid hb3;clear ho3 hb3;have R4:=hid (show Row (w3.alloc (.cells #[.int .u8 (k:Int),.int .u8 (N:Int),.int .u8 (Lc:Int)] 5)) w3.heap.size 5 (([hiB (k:Int) 0,hiB (N:Int) 0,hiB (Lc:Int) 0]:List Byte).map bv8) by rw [← H3.out];exact Row.new w3 5 _)
   have hb4:Below w3.heap.size w3 (w3.alloc (.cells #[.int .u8 (k:Int),.int .u8 (N:Int),.int .u8 (Lc:Int)] 5)):=(Below.refl _ _).alloc (ZnR _) _;have HS4:=hid (show Sl (w3.alloc (.cells #[.int .u8 (k:Int),.int .u8 (N:Int),.int .u8 (Lc:Int)] 5)) (w3.heap.size+1) 1 (some ⟨w3.heap.size,0,none⟩) 3 (([hiB (k:Int) 0,hiB (N:Int) 0,hiB (Lc:Int) 0]:List Byte).map bv8) from R4.out.sl (m:=3) (by omega) (ZnR _));have ho4:=Zz2u HO3.out hb4;have HO4:=hid ho4;have HB4:=hid (HB3.out.trans (hb4.mono HB3.out.size));clear ho4 hb4;have hpg:([]++highL 4 m.seq)=highL 4 m.seq:=rfl
   have HCAT:=hid (show (highL 4 m.seq).map bv8++([hiB (k:Int) 0,hiB (N:Int) 0,hiB (Lc:Int) 0]:List Byte).map bv8=(pageH m.seq k N Lc).map bv8 by rw [← List.map_append];rfl);clear hpg;go_wp2_with (first
    | ((with_reducible show wpList _ _ _ (⟨some 42,_,_,_,_,_⟩::_) _ _);go_must (refine Zz03 rfl (.tmp 33) (.tmp 41) 33 rfl wr.heap.size 5 i0 (.int .u8 0) 1 1 Tryz.underlying33 hi hz0 hz1 hz2 rfl (by omega) (.slice A3 4 c3) 4 _ rfl HO4.out (w3.heap.size+1) (some ⟨w3.heap.size,0,none⟩) 3 3 _ rfl HS4.out (Zz0v _) 7 rfl ((pageH m.seq k N Lc).map bv8) HCAT.out (by omega) (by omega) HB4.out.size ?_);intro A5 c5 w5 ho5 hg5 _;have hb5:=Zz04 HB4.out HO4.out hg5 (ZnR _) HB4.out.size;have HO5:=hid ho5;have HB5:=hid hb5;have HSL5:=hid (HSL.out.below (hb5.mono HBR.out.size));clear ho5 hg5 hb5)
    | ((with_reducible show wpList _ _ _ (⟨some 44,_,_,_,_,_⟩::_) _ _);go_must (refine Zz03 rfl (.tmp 42) (.tmp 43) 33 rfl wr.heap.size 5 i0 (.int .u8 0) 1 1 Tryz.underlying33 hi hz0 hz1 hz2 rfl (by omega) (.slice A5 7 c5) 7 _ rfl HO5.out _ Ac Lc Cc _ rfl HSL5.out (Zz0v _) (7+Lc) rfl ((pageH m.seq k N Lc++pageD (pack m) k).map bv8) (by rw [List.map_append]) (by omega) (by omega) HB5.out.size ?_);intro A6 c6 w6 ho6 hg6 _;have hb6:=Zz04 HB5.out HO5.out hg6 (ZnR _) HB5.out.size;have HS6:=hid (Sl.own ho6);have HB6:=hid hb6;clear ho6 hg6 hb6))
   refine (Zz2r 2 w6.heap.size A6 (pageH m.seq k N Lc++pageD (pack m) k) (7+Lc) c6 w6 (by omega) HS6.out (ZnR _) (by omega)).mono ?_;rintro e w7 ⟨v7,rfl,ho7,hb7⟩;obtain ⟨A7,c7,rfl,h71,h72,_⟩:=Zz0h ho7;rw [HPC.out] at ho7 h71 ⊢;have HB7:=hid (HB6.out.trans (hb7.mono HB6.out.size));obtain ⟨z7,hz7⟩:∃ z7,(pageC m.seq (pack m) k).length=z7:=⟨_,rfl⟩;have HO7:=hid (Zz0b ho7 HB6.out.size);unfold OB at HO7;rw [hz7] at HO7 h71 ⊢;have HZ7:=hid hz7;have hb8:Below w7.heap.size w7 (w7.alloc (.cells #[.slice A7 z7 c7] 33)):=(Below.refl _ _).alloc (ZnR _) _;have R8:=hid (Row.new w7 33 #[.slice A7 z7 c7]);have HO8:=hid (Zz2u HO7.out hb8)
   have HB8:=hid (HBR.out.trans ((HB7.out.trans (hb8.mono HB7.out.size)).mono HBR.out.size));have HOB8:=hid (HOBS.out.below (HB7.out.trans (hb8.mono HB7.out.size)));clear ho7 hb7 hz7 hb8;go_wp2_with ((with_reducible show wpList _ _ _ (⟨some 47,_,_,_,_,_⟩::_) _ _);go_must (refine Zz03 rfl (.tmp 30) (.tmp 46) 23 rfl w2.heap.size 33 ibs (.slice none 0 0) 1 24 Tryz.underlying23 hibs hzb0 hzb1 hzb2 rfl (by omega) (.slice A k c) k vs rfl (by have:=HOB8.out.own;rwa [HLT.out] at this) (w7.heap.size+1) (some ⟨w7.heap.size,0,none⟩) 1 1 _ rfl (R8.out.sl (m:=1) (by omega) (ZnR _)) (by intro u hu;simp at hu;subst hu;rfl) (k+1) rfl _ rfl (by omega) (by omega) HB8.out.size ?_);intro A9 c9 w9 ho9 hg9 _)
   have hps:=OBs.push HOB8.out (x:=pageC m.seq (pack m) k) (by unfold OB;rw [HZ7.out];exact Zz0b HO8.out HBR.out.size) (by rw [HLT.out];exact ho9) hg9;have hb9:=Zz04 HB8.out HOB8.out.own hg9 (ZnR _) HB8.out.size;have hc9:=Zz14 ho9;rw [← HTK.out] at hps;have HPS:=hid hps;have HB9:=hid hb9;clear hps hb9 ho9 hg9;go_roundw
   case rel=>exact ⟨k+1,A9,c9,_,by omega,rfl,by go_num,hc9,HPS.out,HB9.out⟩
   case measure=>simp [intOf] <;> omega
  ·have hlt':¬ (k:Int) < (N:Int):=by omega
   obtain rfl:k=N:=by omega
   go_wp2_with fail;go_ret
   have ho:=HOBS.out;have hl:(pagesL m.seq (pack m)).length=k:=by rw [Zz0n,HN.out]
   rw [ZtL (by omega)] at ho;rw [← hl] at ho ⊢;exact ⟨A,c,vs,rfl,ho.base HB2.out.size,HB2.out.trans (HBR.out.mono HB2.out.size)⟩
end Go.Proofs.YtnknjeipfjdjoaaGreatDoor
