/- RefJoin -/
import Derived.BigGuardPart
import Derived.Deep.DeepCutAuto
import Derived.Test.YtnknjeipfjdjoaaGreatDoorBScanTells48
set_option maxHeartbeats 8000000
set_option maxRecDepth 20000
set_option linter.unusedSimpArgs false
set_option linter.unusedVariables false
namespace Go.Proofs.YtnknjeipfjdjoaaGreatDoor
open Go.RowKit Wells
theorem Zzfx {w w':World} {B size n:Nat} {A:Option Addr} {xs:List Value} (h:Sl w' B size A n xs) (hb:Below B w w'):Sl w B size A n xs:=h.keep fun b o hlt=>(hb.cell (p:=⟨b,o,none⟩) hlt).symm
theorem RB.back {w w':World} {B:Nat} {v:Value} {l:List Byte} (h:RB w' B v l) (hb:Below B w w'):RB w B v l:=by
 obtain ⟨A,c,e,h1,h2,h3⟩:=h;exact ⟨A,c,e,h1,h2,Zzfx h3 hb⟩
theorem Zz9n (a b:List (List Byte)):pagesOf (a++b)=pagesOf a++pagesOf b:=by unfold pagesOf;rw [List.filterMap_append]
theorem Zzg9 {w:World} {B:Nat} {vs:List Value} {ls:List (List Byte)} {v:Value} {x:List Byte} (hl:vs.length=ls.length) (h:∀ i,i < ls.length→RB w B (vs.getD i undef) (ls.getD i [])) (hx:RB w B v x):∀ i,i < (ls++ [x]).length→RB w B ((vs++ [v]).getD i undef) ((ls++ [x]).getD i []):=by
 intro i hi;rw [List.length_append,List.length_singleton] at hi;by_cases e:i < ls.length
 ·rw [ZgD,ZgD,List.getElem?_append_left (by omega),List.getElem?_append_left e,← ZgD,← ZgD]
  exact h i e
 ·have e2:i=ls.length:=by omega
  subst e2;rw [ZgD,ZgD,List.getElem?_append_right (by omega),List.getElem?_append_right (ZnR _),hl];simpa using hx
theorem Zz1a {p:Pg} {k:Nat} {l t:List Pg} (h:l.find? (pgIs p k)=none) (ht:t.find? (pgIs p k)=none):(l++t).find? (pgIs p k)=none:=by
 rw [List.find?_append,h,ht];rfl
theorem Zz51 {p q:Pg} {k:Nat} {l t r:List Pg} (h:l.find? (pgIs p k)=none) (ht:t.find? (pgIs p k)=some q):((l++t)++r).find? (pgIs p k)=some q:=by
 rw [List.find?_append,List.find?_append,h,ht];rfl
theorem Zzgh {w:World} {g:Nat} {t:TypeId} {cs:List Value} {base:Nat} (h:Row w g t cs) (hl:cs.length=1) (hb:base≤g):w.ownsRow base t 1 (.slice (some ⟨g,0,none⟩) 1 1) 1 cs:=
 ⟨by omega,.inr ⟨g,1,cs.toArray,rfl,hb,h,ZnR _,by unfold maxLen;omega,by simp [hl],by simp;exact ZtL (by omega)⟩⟩
theorem Zzgg {w w':World} {B size n:Nat} {A:Option Addr} {xs:List Value} {row:Option Nat} (h:Sl w B size A n xs) (hg:w.grownBy w' row) (hne:∀ b o,A=some ⟨b,o,none⟩→¬ row=some b):Sl w' B size A n xs:=
 ⟨h.len,fun hn=>by
  obtain ⟨b,o,e,hb,hc⟩:=h.at_ hn;exact ⟨b,o,e,hb,fun j u hu=>hg.cell (hc j u hu) (fun e2=>hne b o e e2.symm)⟩⟩
theorem Zzel (B:Nat) (A:Option Addr) (n c:Nat) (vs:List Value) (ls:List (List Byte)) (w:World) (h:RBs w B A n vs ls) (hB:B≤w.heap.size) (hn:n≤1048576) (hls:∀ x∈ls,x.length≤1048576):
  Calls Tryz.prog 23 #[.slice A n c] w (RJoinR (docJ ls) w):=by
 have H:=hid h;have HL:=hid h.len;have HLS:=hid hls;obtain ⟨i0,hi,hz0,hz1,hz2⟩:=info_parts infoB;obtain ⟨ibs,hibs,hzb0,hzb1,hzb2⟩:=info_parts infoBs;obtain ⟨im,him,hzm0,hzm1,hzm2⟩:=info_parts infoMn;obtain ⟨L,hL⟩:∃ L,pagesOf ls=L:=⟨_,rfl⟩;have HLL:=hid hL;have HDJ:=hid (show docJ ls=ls.foldl (docStep L) [] by rw [← hL];rfl);clear h hls hL;go_enter Tryz.func23,Tryz.ntmps23;go_wp2_with fail;go_loopw [3,19] (fun ov iv wr=>∃ (k nx cx:Nat) (Ax:Option Addr) (xs:List MD),k≤n∧nx≤k∧(nx≤cx∧cx≤9223372036854775807)∧ov= .slice Ax nx cx∧iv= .int .i64 (k:Int)∧RMs wr wr.heap.size Ax nx xs∧Hid (xs.map MD.m=(ls.take k).foldl (docStep L) [])∧Below w.heap.size w wr) (fun _ iv _=>n - (intOf iv).toNat)
 case atStart=>exact ⟨0,0,0,none, [],Nat.zero_le _,ZnR _,by omega,rfl,rfl,RMs.nil_ _ _,by rfl,Below.refl _ _⟩
 case round=>
  obtain ⟨wo,hwo⟩:∃ x,x=wr:=⟨_,rfl⟩;subst hwo;obtain ⟨k,nx,cx,Ax,xs,hk,hnk,hcx,rfl,rfl,hxs,HF,hbr⟩:=hrel;have HXSR:=hid hxs;have HBR:=hid hbr;have hBo:B≤wo.heap.size:=ZnT hB hbr.size;clear hxs hbr;by_cases hlt:k < n
  ·have hlt':(k:Int) < (n:Int):=by omega
   obtain ⟨bb0,o0,A',c',rfl,hbb0,hcell,hc1,hc2,hsl⟩:=(H.out.below (HBR.out.mono hB)).get hlt;have hkl:k < ls.length:=by rw [HL.out];exact hlt
   obtain ⟨l,hl⟩:∃ l,ls.getD k []=l:=⟨_,rfl⟩;rw [hl] at hcell hc1 hsl;have hlm:l.length≤1048576:=by
    rw [← hl,ZgD,ZgE hkl];exact HLS.out _ (List.getElem_mem _)
   have htk:ls.take (k+1)=ls.take k++ [l]:=by
    rw [ZtS hkl,← hl,ZgD,ZgE hkl];rfl
   obtain ⟨nl,hnl⟩:∃ q,l.length=q:=⟨_,rfl⟩;rw [hnl] at hcell hc1 hsl hlm;have hfs:=Zz7p L (ls.take k) l;rw [← htk] at hfs;have HFS:=hid hfs;have HSL:=hid hsl;have HNL:=hid hnl;clear hl hkl htk hsl hnl hfs;go_wp2_with fail;refine (Zz83 B A' l nl c' wo HSL.out hBo hlm hc1 hc2).mono ?_;rintro e w2 ⟨s,a,o,Ab,nb,cb,b,lb,rfl,hcb,hnb48,hlb,hsb,hnw,hbf,hbt,hb2⟩;have HB2:=hid (HBR.out.trans (hb2.mono HBR.out.size));have hb3:Below w2.heap.size w2 (w2.alloc (.cells #[.int .i64 s,.int .i64 a,.int .i64 o,.slice Ab nb cb] 96)):=(Below.refl _ _).alloc (ZnR _) _;have hr3:=Row.new w2 96 #[.int .i64 s,.int .i64 a,.int .i64 o,.slice Ab nb cb];have HXS3:=hid ((HXSR.out.up hb2).up hb3)
   have HB3:=hid (HB2.out.trans (hb3.mono HB2.out.size));have HR3:=hid hr3;have HSB3:=hid ((hsb.below hb3).mono hb3.size);have HLB:=hid hlb;have HC3:=hid (((hb2.trans (hb3.mono hb2.size)).cell (p:=⟨bb0,o0+k,none⟩) (Nat.lt_of_lt_of_le hbb0 hBo)).trans hcell);have hB3:B≤(w2.alloc (.cells #[.int .i64 s,.int .i64 a,.int .i64 o,.slice Ab nb cb] 96)).heap.size:=ZnT hB HB3.out.size;have HS3:=hid (show Sl (w2.alloc (.cells #[.int .i64 s,.int .i64 a,.int .i64 o,.slice Ab nb cb] 96)) B 1 A' nl (l.map bv8) from (HSL.out.below (hb2.mono hBo)).below (hb3.mono (ZnT hBo hb2.size)));have HBF:=hid hbf;have HBT:=hid hbt;clear hb2 hb3 hr3 hsb hlb hbf hbt hnw;go_upto_region 6 with fail;clear hcell
   generalize w2.alloc (.cells #[.int .i64 s,.int .i64 a,.int .i64 o,.slice Ab nb cb] 96)=w3 at*;obtain ⟨g5,hg5⟩:∃ g,w2.heap.size=g:=⟨_,rfl⟩;rw [hg5] at HR3 ⊢;have HG5:=hid HR3.out.lt;clear hg5;cases b with
   | false=>
    have hst:=Zz7d (P:=L) (out:=(ls.take k).foldl (docStep L) []) (HBF.out rfl);have HST:=hid hst;clear hst;go_wp2_with fail;go_roundw
    case rel=>exact ⟨k+1,nx,cx,Ax,xs,by omega,by omega,hcx,rfl,by go_num,HXS3.out,by rw [HFS.out,HST.out];exact HF.out,HB3.out⟩
    case measure=>simp [intOf] <;> omega
   | true=>
    obtain ⟨cell0,hT⟩:=HBT.out rfl;have hcell0:cell0=l:=(Zz3a hT).1;subst hcell0;have HT:=hid hT;have htc:=(Zz3a hT).2;dsimp only at htc;have ho255:0≤o∧o≤255:=⟨htc.2.1,htc.2.2.1⟩;clear hT htc HBF HBT;by_cases h0:a=0
    ·subst h0
     have hc3:=HC3.out;have hr:=HR3.out;have z0:=hr.cell 0;have z1:=hr.cell 1;have z2:=hr.cell 2;have z3:=hr.cell 3;simp only [ZgS,ZgZ] at z0 z1 z2 z3;clear hr;go_upto_region 8 with ((with_reducible show wpList _ _ _ (⟨some 41,_,_,_,_,_⟩::_) _ _);refine wpList_plain rfl (fun K hK=> ?_);refine Zz2s 23 33 (.tmp 40) (by rfl) _ (by rfl) rfl ibs (.slice none 0 0) Tryz.underlying23 hibs hzb0 hzb1 rfl ?_;rintro w4 g4 hg4 hr4 hb4 hz4;refine hK _ _ ?_;clear hK K;subst hg4;have HR4:=hid hr4;have HB4:=hid hb4;clear hr4 hb4 hz4)
     have HOC4:=hid (Zzgh (base:=w3.heap.size) HR4.out rfl (ZnR _));have HBX4:=hid (HR3.out.below HB4.out HR3.out.lt);clear z0 z1 z2 z3 hc3;have hr:=HBX4.out;have z0:=hr.cell 0;have z1:=hr.cell 1;have z2:=hr.cell 2;have z3:=hr.cell 3;simp only [ZgS,ZgZ] at z0 z1 z2 z3;clear hr
     go_upto_region 10 with ((with_reducible show wpList _ _ _ (⟨some 45,_,_,_,_,_⟩::_) _ _);go_must (refine Zz03 rfl (.tmp 42) (.tmp 44) 33 rfl w3.heap.size 5 i0 (.int .u8 0) 1 1 Tryz.underlying33 hi hz0 hz1 hz2 rfl (by omega) (.slice none 0 0) 0 [] rfl (World.ownsRow_nil _ _ _ _) w3.heap.size Ab nb cb (lb.map bv8) rfl (HSB3.out.below HB4.out) (Zz0v _) nb (by omega) _ rfl (by omega) (by omega) HB4.out.size ?_);intro A5 c5 w5 ho5 hg5 _)
     have hb5:Below w4.heap.size w4 w5:=⟨hg5.os,hg5.tape,hg5.output,hg5.size,fun k hk=>hg5.block k hk (by simp [Value.ownBlock])⟩;have HB5:=hid (HB4.out.trans (hb5.mono HB4.out.size));have HOC5:=hid (HOC4.out.kept (Zz02 hb5 none) (by cases (Value.slice (some ⟨w3.heap.size,0,none⟩) 1 1).ownBlock <;> simp));have HOA5:=hid (show w5.ownsRow w3.heap.size 5 1 (.slice A5 nb c5) nb (lb.map bv8) from ho5);clear ho5 hg5 hb5 z0 z1 z2 z3;obtain ⟨p,hp⟩:∃ p:Pg,p=⟨s,0,o,lb,cell0⟩:=⟨_,rfl⟩;have HPP:=hid hp;have HTP:=hid (show tkPage cell0=some p by rw [hp];exact HT.out);clear hp;go_wp2_with fail
     go_loopw [7,8,9] (fun cv av iv wr2=>∃ (j nc cc na ca:Nat) (Ac Aa:Option Addr) (vsC:List Value) (lsC:List (List Byte)) (la:List Byte),j≤254∧(j=0∨(j:Int)+1≤o)∧cv= .slice Ac nc cc∧av= .slice Aa na ca∧iv= .int .i64 ((j+1:Nat):Int)∧wr2.ownsRow w3.heap.size 33 1 (.slice Ac nc cc) nc vsC∧(∀ i,i < lsC.length→RB wr2 B (vsC.getD i undef) (lsC.getD i []))∧vsC.length=nc∧lsC.length=nc∧nc≤j+1∧wr2.ownsRow w3.heap.size 5 1 (.slice Aa na ca) na (la.map bv8)∧la.length=na∧na≤48*(j+1)∧Hid (lsC=(docG L p j).map Pg.cell)∧Hid (la=(docG L p j).flatMap Pg.bears)∧Below w3.heap.size w3 wr2) (fun _ _ iv _=>256 - (intOf iv).toNat)
     case atStart=>exact ⟨0,1,1,nb,c5,some ⟨w3.heap.size,0,none⟩,A5, [.slice A' nl c'], [cell0],lb,by omega,.inl rfl,rfl,rfl,rfl,HOC5.out,(fun i hi=>by
      have hi0:i=0:=by simp at hi;omega
      subst hi0;exact ⟨A',c',by show Value.slice A' nl c'= .slice A' cell0.length c';rw [HNL.out],by show cell0.length≤c';rw [HNL.out];exact hc1,hc2,by show Sl w5 B 1 A' cell0.length (cell0.map bv8);rw [HNL.out];exact HS3.out.below (HB5.out.mono hB3)⟩),rfl,rfl,by omega,HOA5.out,HLB.out,by omega,by rw [HPP.out];rfl,by rw [HPP.out];exact hid (by simp [docG]),HB5.out⟩
     case round=>
      clear HOC5 HOA5 HB5 HOC4 HR4 HB4 HBX4;obtain ⟨wt,hwt⟩:∃ x,x=wr:=⟨_,rfl⟩;subst hwt;obtain ⟨j,nc,cc,na,ca,Ac,Aa,vsC,lsC,la,hj,hjo,rfl,rfl,rfl,hoc,hce,hvl,hlc,hnc,hoa,hla,hna,HFC,HFA,hbt⟩:=hrel;have HOC:=hid hoc;have HCE:=hid hce;have HVL:=hid hvl;have HLC:=hid hlc;have HOA:=hid hoa;have HLA:=hid hla;have HBT:=hid hbt;have hcc:=Zz14 hoc;have hca:=Zz14 hoa;have HBXT:=hid (HR3.out.below hbt HR3.out.lt);have hBt:B≤wt.heap.size:=ZnT hB3 hbt.size;obtain ⟨kk,hkk⟩:∃ kk:Nat,j+1=kk:=⟨_,rfl⟩;have HKK:=hid hkk;have hkk1:1≤kk∧kk≤255:=by omega
      have HJO:=hid hjo;rw [hkk] at hnc hna ⊢;clear hoc hce hvl hlc hoa hla hbt hkk hjo hj;have hr:=HBXT.out;have z0:=hr.cell 0;have z1:=hr.cell 1;have z2:=hr.cell 2;have z3:=hr.cell 3;simp only [ZgS,ZgZ] at z0 z1 z2 z3;clear hr;by_cases hko:(kk:Int) < o
      ·go_wp2_with fail
       go_loopw [7,8,54] (fun cv av qv wr3=>∃ q:Nat,q≤n∧cv= .slice Ac nc cc∧av= .slice Aa na ca∧qv= .int .i64 (q:Int)∧Hid ((pagesOf (ls.take q)).find? (pgIs p kk)=none)∧Below wt.heap.size wt wr3) (fun _ _ qv _=>n - (intOf qv).toNat)
       case atStart=>exact ⟨0,Nat.zero_le _,rfl,rfl,rfl,by rfl,Below.refl _ _⟩
       case round=>
        clear z0 z1 z2 z3;obtain ⟨q,hq,rfl,rfl,rfl,HNF,hbq⟩:=hrel;have HBW:=hid hbq;have HBQ:=hid (HBT.out.trans (hbq.mono HBT.out.size));have HOCQ:=hid (HOC.out.kept (Zz02 hbq none) (by cases (Value.slice Ac nc cc).ownBlock <;> simp));have HOAQ:=hid (HOA.out.kept (Zz02 hbq none) (by cases (Value.slice Aa na ca).ownBlock <;> simp));have HCB:=hid (fun b (e:(Value.slice Ac nc cc).ownBlock=some b)=>(Zz2q HOC.out b e).2);have HCEQ:=hid (fun i (hi:i < lsC.length)=>(HCE.out i hi).keep (hbq.mono hBt));have hBq:B≤wr.heap.size:=ZnT hBt hbq.size;by_cases hql:q < n
        ·have hql':(q:Int) < (n:Int):=by omega
         obtain ⟨bbq,oq,Aq,cq,e',hbbq,hcellq,hcq1,hcq2,hslq⟩:=(H.out.below ((HB3.out.mono hB).trans (HBQ.out.mono hB3))).get hql;injection e' with e';injection e' with e1 e2;subst e1 e2;have hkq:q < ls.length:=by rw [HL.out];exact hql
         obtain ⟨lq,hlq⟩:∃ x,ls.getD q []=x:=⟨_,rfl⟩;rw [hlq] at hcellq hcq1 hslq;have hlmq:lq.length≤1048576:=by
          rw [← hlq,ZgD,ZgE hkq];exact HLS.out _ (List.getElem_mem _)
         have htkq:ls.take (q+1)=ls.take q++ [lq]:=by
          rw [ZtS hkq,← hlq,ZgD,ZgE hkq];rfl
         have hpoq:=Zz2g (ls.take q) lq;rw [← htkq] at hpoq;obtain ⟨nq,hnq⟩:∃ x,lq.length=x:=⟨_,rfl⟩;rw [hnq] at hcellq hcq1 hslq hlmq;have HPO:=hid hpoq;have HNQ:=hid hnq;have HSLQ:=hid hslq;have HCQ0:=hid hcellq;clear hlq hkq htkq hpoq hnq hslq hbq;go_wp2_with fail;refine (Zz83 B Aq lq nq cq wr HSLQ.out hBq hlmq hcq1 hcq2).mono ?_;rintro e w6 ⟨s2,a2,o2,Ab2,nb2,cb2,b2,lb2,rfl,hcb2,hnb2,hlb2,hsb2,hnw2,hbf2,hbt2,hb6⟩;have hb7:Below w6.heap.size w6 (w6.alloc (.cells #[.int .i64 s2,.int .i64 a2,.int .i64 o2,.slice Ab2 nb2 cb2] 96)):=(Below.refl _ _).alloc (ZnR _) _;have hr7:=Row.new w6 96 #[.int .i64 s2,.int .i64 a2,.int .i64 o2,.slice Ab2 nb2 cb2];have hb67:=hb6.trans (hb7.mono hb6.size)
         have HB7:=hid (HBQ.out.trans (hb67.mono HBQ.out.size));have HBW7:=hid (HBW.out.trans (hb67.mono HBW.out.size));have HR7:=hid hr7;have HSQ:=hid ((hsb2.below hb7).mono hb7.size);have HLQ2:=hid hlb2;have HNW:=hid (fun b o (e:Ab2=some ⟨b,o,none⟩)=>ZnT HBW.out.size (hnw2 b o e));have HCQ:=hid ((hb67.cell (p:=⟨bb0,o0+q,none⟩) (Nat.lt_of_lt_of_le hbb0 hBq)).trans HCQ0.out);have HBF2:=hid hbf2;have HBT2:=hid hbt2;have HSLQ:=hid (HSLQ.out.below (hb67.mono hBq));have HCE7:=hid (fun i (hi:i < lsC.length)=>(HCEQ.out i hi).keep (hb67.mono hBq));have HOC7:=hid (HOCQ.out.kept (Zz02 hb67 none) (by cases (Value.slice Ac nc cc).ownBlock <;> simp))
         have HOA7:=hid (HOAQ.out.kept (Zz02 hb67 none) (by cases (Value.slice Aa na ca).ownBlock <;> simp));have hB7:B≤(w6.alloc (.cells #[.int .i64 s2,.int .i64 a2,.int .i64 o2,.slice Ab2 nb2 cb2] 96)).heap.size:=ZnT hBq hb67.size;clear hb6 hb7 hr7 hb67 hsb2 hlb2 hnw2 hbf2 hbt2 hcellq;go_upto_region 17 with fail;clear HOCQ HOAQ HCEQ HCQ0;generalize w6.alloc (.cells #[.int .i64 s2,.int .i64 a2,.int .i64 o2,.slice Ab2 nb2 cb2] 96)=w7 at*;obtain ⟨g11,hg11⟩:∃ g,w6.heap.size=g:=⟨_,rfl⟩;rw [hg11] at HR7 ⊢;clear hg11;cases b2 with
         | false=>
          have hf:=Zz1a (p:=p) (k:=kk) HNF.out (show (tkPage lq).toList.find? (pgIs p kk)=none by rw [HBF2.out rfl];rfl);rw [← HPO.out] at hf;have HF2:=hid hf;clear hf;go_wp2_with fail;go_roundw
          case rel=>exact ⟨q+1,by omega,rfl,rfl,by go_num,HF2.out,HBW7.out⟩
          case measure=>simp [intOf];omega
         | true=>
          obtain ⟨cell2,hT2⟩:=HBT2.out rfl;obtain rfl:lq=cell2:=(Zz3a hT2).1.symm;have HT2:=hid hT2;clear hT2 HBF2 HBT2;have hz:=HBXT.out.below HBW7.out HBXT.out.lt;have z0:=hz.cell 0;have z2:=hz.cell 2;simp only [ZgS,ZgZ] at z0 z2;clear hz;by_cases hs:s2=s
          ·obtain rfl:s=s2:=hs.symm
           by_cases ho2:o2=o
           ·obtain rfl:o=o2:=ho2.symm
            by_cases ha2:a2=(kk:Int)
            ·subst ha2
             have hk2:=HKK.out;have hfs2:=Zz51 (p:=p) (k:=kk) (r:=pagesOf (ls.drop (q+1))) HNF.out (show (tkPage lq).toList.find? (pgIs p kk)=some ⟨s,kk,o,lb2,lq⟩ by
              rw [HT2.out,Option.toList_some,HPP.out];unfold pgIs;simp)
             rw [← HPO.out,← Zz9n,List.take_append_drop,HLL.out] at hfs2;have HGS:=hid (show docG L p kk=docG L p j++ [⟨s,kk,o,lb2,lq⟩] by subst hk2;exact Zz8n hfs2);have HBB3:=hid (show bb0 < w3.heap.size from Nat.lt_of_lt_of_le hbb0 hB3);have HBB7:=hid (show bb0 < w7.heap.size from Nat.lt_of_lt_of_le hbb0 hB7);have HOC:=hid (show w7.drew.ownsRow w3.heap.size 33 1 (.slice Ac nc cc) nc vsC from HOC7.out);have HOA:=hid (show w7.drew.ownsRow w3.heap.size 5 1 (.slice Aa na ca) na (la.map bv8) from HOA7.out);have HSQ:=hid (show Sl w7.drew w7.drew.heap.size 1 Ab2 nb2 (lb2.map bv8) from HSQ.out.drew);clear hfs2 hk2;have hr:=HR7.out;have y0:=hr.cell 0;have y1:=hr.cell 1;have y2:=hr.cell 2
             have y3:=hr.cell 3;simp only [ZgS,ZgZ] at y0 y1 y2 y3;clear hr;go_upto_region 18 with fail;clear z0 z2 y0 y1 y2 y3;refine Org.begin [] (fun w'=>Below w3.heap.size w3 w'∧Row w' g11 96 [.int .i64 s,.int .i64 (kk:Int),.int .i64 o,.slice Ab2 nb2 cb2]∧w7.heap.size≤w'.heap.size∧w'.cell? ⟨bb0,o0+q,none⟩=some (.slice Aq nq cq)) [0,1,2,3,4,7,8,9,5,6,10,11,12] (by kernel_rfl) (⟨Zz01 HB7.out 1,HR7.out,ZnR _,HCQ.out⟩) (fun hS=> ?_);iterate 4 (refine Org.yV (SM.of hS) ?_;try simp only [aS,aN,aA,a0,a1])
             (refine Org.yA (v:= ?_) (SM.of hS) ?_ ?_;rotate_left;(focus (intro w hSw;(try dsimp only at hSw);have qc:=hSw.2.2.2;refine Pure.val ?_;go_simp;(try with_reducible rfl);done));try simp only [aS,aN,aA,a0,a1]);iterate 2 (refine Org.yV (SM.of hS) ?_;try simp only [aS,aN,aA,a0,a1])
             (refine Org.yA (v:= ?_) (SM.of hS) ?_ ?_;rotate_left;(focus (intro w hSw;(try dsimp only at hSw);have hr:=hSw.2.1;have q3:=hr.cell 3;simp only [ZgS,ZgZ] at q3;refine Pure.val ?_;go_simp;(try with_reducible rfl);done));try simp only [aS,aN,aA,a0,a1]);refine Org.gA fun K hK=> ?_
             refine Zz2s 23 33 (.tmp 90) (by rfl) (.slice Aq nq cq) (by go_simp) rfl ibs (.slice none 0 0) Tryz.underlying23 hibs hzb0 hzb1 rfl ?_;rintro wA gA hgA hrA hbA hzA;have HGA:=hid (show w7.heap.size≤gA by rw [← hgA];exact hS.2.2.1);rw [← hgA] at hbA;have hbA':=hbA;have HRA:=hid hrA;have HOC:=hid (HOC.out.kept (Zz02 hbA' none) (by cases (Value.slice Ac nc cc).ownBlock <;> simp));have HOA:=hid (HOA.out.kept (Zz02 hbA' none) (by cases (Value.slice Aa na ca).ownBlock <;> simp));have HSQ:=hid ((HSQ.out.below hbA').mono hbA'.size)
             have hS3:=And.intro (hS.1.trans (hbA'.mono hS.1.size)) (And.intro (hS.2.1.below hbA' hS.2.1.lt) (And.intro (ZnT hS.2.2.1 hbA'.size) ((hbA'.cell (p:=⟨bb0,o0+q,none⟩) (Nat.lt_of_lt_of_le HBB7.out hS.2.2.1)).trans hS.2.2.2)));clear hbA' hbA hzA hrA;refine hK.out _ _ hS3 (fun hS2=> ?_);clear hK K hS;have hS:=hS2;clear hS2;try simp only [aS,aN,aA,a0,a1]
             refine Org.gA fun K hK=> ?_
             refine Zz0k (.tmp 86) (.tmp 91) 23 rfl w3.heap.size 33 ibs (.slice none 0 0) 1 24 Tryz.underlying23 hibs hzb0 hzb1 hzb2 rfl (by omega) (.slice Ac nc cc) nc vsC (by go_simp) HOC.out _ (some ⟨gA,0,none⟩) 1 1 [.slice Aq nq cq] (by go_simp) (HRA.out.sl (m:=1) HRA.out.lt (ZnR _)) (by intro u hu;simp only [List.mem_singleton] at hu;subst hu;rfl) (nc+1) rfl _ rfl (by omega) (by omega) hS.1.size ?_;rintro Ac2 cc2 wB hoB hgB _;have HOC2:=hid hoB;have HSQ:=hid (Zzgg HSQ.out hgB (fun b o e e2=>by have h1:=HNW.out b o e;have h2:=HCB.out b e2;omega));have HOA:=hid (HOA.out.kept hgB (Zz0i HOA.out HOC.out (by decide)))
             have hS3:=And.intro (Zz04 hS.1 HOC.out hgB (ZnR _) hS.1.size) (And.intro (Zz1i hS.2.1 hgB (Zz1y HOC.out) (by decide)) (And.intro (ZnT hS.2.2.1 hgB.size) (hgB.cell hS.2.2.2 (fun e=>by have h1:=(Zz2q HOC.out bb0 e.symm).1;have h2:=HBB3.out;omega))));clear hoB hgB;refine hK.out _ _ hS3 (fun hS2=> ?_);clear hK K hS;have hS:=hS2;clear hS2;try simp only [aS,aN,aA,a0,a1]
             refine Org.gA fun K hK=> ?_
             refine Zz0k (.tmp 93) (.tmp 95) 33 rfl w3.heap.size 5 i0 (.int .u8 0) 1 1 Tryz.underlying33 hi hz0 hz1 hz2 rfl (by omega) (.slice Aa na ca) na (la.map bv8) (by go_simp) HOA.out _ Ab2 nb2 cb2 (lb2.map bv8) (by go_simp) HSQ.out (Zz0v _) (na+nb2) rfl ((la++lb2).map bv8) (by rw [List.map_append]) (by omega) (by omega) hS.1.size ?_;rintro Aa2 ca2 wC hoC hgC _;have HOA2:=hid hoC;have HOC2:=hid (HOC2.out.kept hgC (Zz0i HOC2.out HOA.out (by decide)))
             have hS3:=And.intro (Zz04 hS.1 HOA.out hgC (ZnR _) hS.1.size) (And.intro (Zz1i hS.2.1 hgC (Zz1y HOA.out) (by decide)) (And.intro (ZnT hS.2.2.1 hgC.size) (hgC.cell hS.2.2.2 (fun e=>by have h1:=(Zz2q HOA.out bb0 e.symm).1;have h2:=HBB3.out;omega))));clear hoC hgC;refine hK.out _ _ hS3 (fun hS2=> ?_);clear hK K hS;have hS:=hS2;clear hS2;try simp only [aS,aN,aA,a0,a1]
             iterate 2 (refine Org.yV (SM.of hS) ?_;try simp only [aS,aN,aA,a0,a1])
             refine Org.done (by kernel_rfl) ?_;have HS7:=hid hS.1;clear hS;go_wp2_with fail;go_roundw
             case rel=>exact ⟨kk,nc+1,cc2,na+nb2,ca2,Ac2,Aa2,vsC++ [.slice Aq nq cq],lsC++ [lq],la++lb2,by omega,.inr (by omega),rfl,rfl,by go_num,HOC2.out,Zzg9 (HVL.out.trans HLC.out.symm) (fun i hi=>((HCE7.out i hi).back (HB7.out.mono hB3)).keep (HS7.out.mono hB3)) ⟨Aq,cq,by rw [HNQ.out],by rw [HNQ.out];exact hcq1,hcq2,by rw [HNQ.out];exact (Zzfx HSLQ.out (HB7.out.mono hB3)).below (HS7.out.mono hB3)⟩,by rw [List.length_append,HVL.out];rfl,by rw [List.length_append,HLC.out];rfl,by omega,HOA2.out,by rw [List.length_append,HLA.out,HLQ2.out],by omega,by rw [HGS.out,List.map_append,← HFC.out];rfl,by rw [HGS.out,List.flatMap_append,← HFA.out,List.flatMap_singleton];exact hid rfl,HS7.out⟩
             case measure=>simp [intOf];omega
            ·have hno:pgIs p kk ⟨s,a2,o,lb2,lq⟩=false:=by rw [HPP.out];unfold pgIs;simp [ha2]
             have hf:=Zz1a (p:=p) (k:=kk) HNF.out (show (tkPage lq).toList.find? (pgIs p kk)=none by rw [HT2.out,Option.toList_some];simp [hno]);rw [← HPO.out] at hf;have HF2:=hid hf;clear hf hno;have hr:=HR7.out;have y0:=hr.cell 0;have y1:=hr.cell 1;have y2:=hr.cell 2;have y3:=hr.cell 3;simp only [ZgS,ZgZ] at y0 y1 y2 y3;clear hr;go_wp2_with fail;go_roundw
             case rel=>exact ⟨q+1,by omega,rfl,rfl,by go_num,HF2.out,HBW7.out⟩
             case measure=>simp [intOf];omega
           ·have hno:pgIs p kk ⟨s,a2,o2,lb2,lq⟩=false:=by rw [HPP.out];unfold pgIs;simp [ho2]
            have hf:=Zz1a (p:=p) (k:=kk) HNF.out (show (tkPage lq).toList.find? (pgIs p kk)=none by rw [HT2.out,Option.toList_some];simp [hno]);rw [← HPO.out] at hf;have HF2:=hid hf;clear hf hno;have hr:=HR7.out;have y0:=hr.cell 0;have y1:=hr.cell 1;have y2:=hr.cell 2;have y3:=hr.cell 3;simp only [ZgS,ZgZ] at y0 y1 y2 y3;clear hr;go_wp2_with fail;go_roundw
            case rel=>exact ⟨q+1,by omega,rfl,rfl,by go_num,HF2.out,HBW7.out⟩
            case measure=>simp [intOf];omega
          ·have hno:pgIs p kk ⟨s2,a2,o2,lb2,lq⟩=false:=by rw [HPP.out];unfold pgIs;simp [hs]
           have hf:=Zz1a (p:=p) (k:=kk) HNF.out (show (tkPage lq).toList.find? (pgIs p kk)=none by rw [HT2.out,Option.toList_some];simp [hno]);rw [← HPO.out] at hf;have HF2:=hid hf;clear hf hno;have hr:=HR7.out;have y0:=hr.cell 0;have y1:=hr.cell 1;have y2:=hr.cell 2;have y3:=hr.cell 3;simp only [ZgS,ZgZ] at y0 y1 y2 y3;clear hr;go_wp2_with fail;go_roundw
           case rel=>exact ⟨q+1,by omega,rfl,rfl,by go_num,HF2.out,HBW7.out⟩
           case measure=>simp [intOf];omega
        ·have hql':¬ (q:Int) < (n:Int):=by omega
         obtain rfl:q=n:=by omega
         have hnf:=HNF.out;rw [ZtL (by rw [HL.out];exact ZnR _),HLL.out] at hnf;have hk2:=HKK.out;have HGS:=hid (show docG L p kk=docG L p j by subst hk2;exact Zzdc hnf);clear hnf hk2;go_wp2_with fail;go_roundw
         case rel=>exact ⟨kk,nc,cc,na,ca,Ac,Aa,vsC,lsC,la,by omega,.inr (by omega),rfl,rfl,by go_num,HOCQ.out,HCEQ.out,HVL.out,HLC.out,by omega,HOAQ.out,HLA.out,by omega,by rw [HGS.out];exact HFC.out,by rw [HGS.out];exact HFA.out,HBQ.out⟩
         case measure=>simp [intOf];omega
      ·have HDG:=hid (show docG L p (p.of_ - 1).toNat=docG L p j by
        have h1:=HJO.out;have h2:=HKK.out;have e:(p.of_ - 1).toNat=j:=by rw [HPP.out];show (o - 1).toNat=j;omega
        rw [e])
       obtain ⟨r,hr⟩:∃ r,parseL la=r:=⟨_,rfl⟩;have HRR:=hid hr;clear hr;go_wp2_with fail;refine (Zz78 wt.heap.size Aa na ca la wt (Sl.own HOA.out) (ZnR _) (by omega) hca.1 hca.2 r HRR.out).mono ?_;rintro e w6 ⟨Adm,ndm,cdm,Aom,nom,com,tsm,rfl,hom,hb6⟩;have HOM6:=hid hom;have HB6:=hid (HBT.out.trans (hb6.mono HBT.out.size));have HOC6:=hid (HOC.out.kept (Zz02 hb6 none) (by cases (Value.slice Ac nc cc).ownBlock <;> simp));have HCE6:=hid (fun i (hi:i < lsC.length)=>(HCE.out i hi).keep (hb6.mono hBt));clear hom hb6 z0 z1 z2 z3 HOC HCE HOA;cases r with
       | none=>
        have hw:=Zz6v HFA.out HRR.out;have hst:=Zz8s (P:=L) (out:=(ls.take k).foldl (docStep L) []) HTP.out (by rw [HPP.out]) (by rw [HDG.out];exact hw);have HST:=hid hst;clear hw hst;simp only [Option.getD_none,Option.isSome_none];unfold Mani.val Mani.zero;dsimp only;have hb7:Below w6.heap.size w6 (w6.alloc (.cells #[.int .i64 0,.int .i64 0,.int .i64 0,.int .i64 0,.int .i64 0,.int .i64 0,.slice Adm ndm cdm,.slice Aom nom com] 28)):=(Below.refl _ _).alloc (ZnR _) _;have HB7:=hid (HB6.out.trans (hb7.mono HB6.out.size));clear hb7;go_wp2_with fail;go_roundw
        case rel=>exact ⟨k+1,nx,cx,_,xs,by omega,by omega,hcx,rfl,by go_num,HXS3.out.up HB7.out,by rw [HFS.out,HST.out];exact HF.out,HB3.out.trans (HB7.out.mono HB3.out.size)⟩
        case measure=>simp [intOf] <;> omega
       | some m=>
        simp only [Option.getD_some,Option.isSome_some] at HOM6 ⊢;have hm64:=Zz7x HRR.out;unfold Mani.val;have hb7:Below w6.heap.size w6 (w6.alloc (.cells #[.int .i64 m.seq,.int .i64 m.next,.int .i64 m.P.K,.int .i64 m.P.H,.int .i64 m.P.S,.int .i64 m.extra,.slice Adm ndm cdm,.slice Aom nom com] 28)):=(Below.refl _ _).alloc (ZnR _) _;have hr7:=Row.new w6 28 #[.int .i64 m.seq,.int .i64 m.next,.int .i64 m.P.K,.int .i64 m.P.H,.int .i64 m.P.S,.int .i64 m.extra,.slice Adm ndm cdm,.slice Aom nom com];have HB7:=hid (HB6.out.trans (hb7.mono HB6.out.size));have HM7:=hid hr7;have HRM7:=hid ((HOM6.out.read.below hb7).mono hb7.size)
        have HOC7:=hid (HOC6.out.kept (Zz02 hb7 none) (by cases (Value.slice Ac nc cc).ownBlock <;> simp));have hB6:B≤w6.heap.size:=ZnT hB3 HB6.out.size;have HCE7:=hid (fun i (hi:i < lsC.length)=>(HCE6.out i hi).keep (hb7.mono hB6));clear hb7 hr7 HOC6 HCE6;go_upto_region 21 with fail;generalize w6.alloc (.cells #[.int .i64 m.seq,.int .i64 m.next,.int .i64 m.P.K,.int .i64 m.P.H,.int .i64 m.P.S,.int .i64 m.extra,.slice Adm ndm cdm,.slice Aom nom com] 28)=w7 at*;obtain ⟨g13,hg13⟩:∃ g,w6.heap.size=g:=⟨_,rfl⟩;rw [hg13] at HM7 ⊢;clear hg13;have hr:=HM7.out;obtain ⟨x0,x1,x2,x3,x4,x5,x6,x7⟩:=Row.c8 hr;clear hr;go_wp2_with fail
        refine (Zz1g m w7.heap.size Adm Aom ndm cdm nom com tsm w7 HRM7.out (ZnR _) hm64.1 hm64.2).mono ?_;rintro e w8 ⟨A8,c8,vs8,rfl,ho8,hb8⟩;obtain ⟨n8,hn8⟩:∃ q,(pagesL m.seq (pack m)).length=q:=⟨_,rfl⟩;rw [hn8] at ho8;have hrb:=ho8.read hn8;have hn89:n8≤1048576:=by rw [← hn8,Zz0n];have:=Zz7b m;unfold pageN;omega
        rw [hn8];have HRB:=hid hrb;have HB8:=hid (HB7.out.trans (hb8.mono HB7.out.size));have HM8:=hid (HM7.out.below hb8 HM7.out.lt);have HRM8:=hid ((HRM7.out.below hb8).mono hb8.size);have HOC8:=hid (HOC7.out.kept (Zz02 hb8 none) (by cases (Value.slice Ac nc cc).ownBlock <;> simp));have hB7:B≤w7.heap.size:=ZnT hB3 HB7.out.size;have hB8:B≤w8.heap.size:=ZnT hB7 hb8.size;have HRC8:=hid (show RBs w8 w8.heap.size Ac nc vsC lsC from ⟨Sl.own HOC8.out,HLC.out,fun i hi=>(((HCE7.out i (by rw [HLC.out];exact hi)).keep (hb8.mono hB7)).mono hB8)⟩);obtain ⟨bd,hbd⟩:∃ b,decide (pagesL m.seq (pack m)=lsC)=b:=⟨_,rfl⟩;have HBD:=hid hbd
        have HWS:=hid (Zz71 (b:=bd) HFA.out HRR.out (by rw [← HFC.out];exact hbd));clear ho8 hrb hn8 hb8 hbd x0 x1 x2 x3 x4 x5 x6 x7 HOC7 HCE7;go_wp2_with fail;refine (Zzfu bd w8.heap.size A8 Ac vs8 vsC (pagesL m.seq (pack m)) lsC n8 nc c8 cc w8 HRB.out HRC8.out (by omega) (by omega) HBD.out).mono ?_;rintro e w9 ⟨rfl,d9,rfl⟩;have HB9:=hid (Zz01 HB8.out d9);cases bd with
        | false=>
         have hst:=Zz8s (P:=L) (out:=(ls.take k).foldl (docStep L) []) HTP.out (by rw [HPP.out]) (by rw [HDG.out];exact HWS.out.1 rfl);have HST:=hid hst;clear hst;go_wp2_with fail;go_roundw
         case rel=>exact ⟨k+1,nx,cx,_,xs,by omega,by omega,hcx,rfl,by go_num,HXS3.out.up HB9.out,by rw [HFS.out,HST.out];exact HF.out,HB3.out.trans (HB9.out.mono HB3.out.size)⟩
         case measure=>simp [intOf] <;> omega
        | true=>
         have HW:=hid (HWS.out.2 rfl);have HM9:=hid (show Row (w8.drewN d9) g13 28 _ from HM8.out);have HRM9:=hid (show RM (w8.drewN d9) (w8.drewN d9).heap.size m Adm ndm cdm Aom nom com tsm from HRM8.out.below (Zz01 (Below.refl w8.heap.size w8) d9));have HX9:=hid (HXS3.out.up HB9.out);have HBO9:=hid (HB3.out.trans (HB9.out.mono HB3.out.size));clear HM7 HM8 HRM7 HRM8 HB7 HB8 HB9 HRB HRC8 HOC8 HBD HWS;go_upto_region 22 with fail;generalize w8.drewN d9=w9 at*;go_wp2_with fail;go_loopw [14,116] (fun tv qv wr4=>∃ (q:Nat) (bt:Bool),q≤nx∧tv= .bool bt∧qv= .int .i64 (q:Int)∧Hid (bt=true↔m∈(xs.take q).map MD.m)∧Below w9.heap.size w9 wr4) (fun _ qv _=>nx - (intOf qv).toNat)
         case atStart=>exact ⟨0,false,Nat.zero_le _,rfl,rfl,hid Zz6y,Below.refl _ _⟩
         case round=>
          obtain ⟨wf,hwf⟩:∃ x,x=wr:=⟨_,rfl⟩;subst hwf;obtain ⟨q,bt,hq,rfl,rfl,HBTQ,hbw⟩:=hrel;have HBWF:=hid hbw;have HXF:=hid (HX9.out.up hbw);have HM9:=hid (HM9.out.below hbw HM9.out.lt);have HRM9:=hid ((HRM9.out.below hbw).mono hbw.size);have HBOF:=hid (HBO9.out.trans (hbw.mono HBO9.out.size));clear hbw;by_cases hqx:q < nx
          ·have hqx':(q:Int) < (nx:Int):=by omega
           obtain ⟨bbx,ox,rfl,hbbx,hxm,hxg,hcells⟩:=HXF.out.get hqx;obtain ⟨x,hx⟩:∃ x,xs[q]! =x:=⟨_,rfl⟩;rw [hx] at hxm hcells hxg;have HRX:=hid (HXF.out.at_ x hxm);have HBX:=hid hbbx;have PX0:=hid (hcells 0 _ rfl);have PX1:=hid (hcells 1 _ rfl);have PX2:=hid (hcells 2 _ rfl);have PX3:=hid (hcells 3 _ rfl);have PX4:=hid (hcells 4 _ rfl);have PX5:=hid (hcells 5 _ rfl);have PX6:=hid (hcells 6 _ rfl);have PX7:=hid (hcells 7 _ rfl);simp only [Nat.add_zero] at PX0 PX1 PX2 PX3 PX4 PX5 PX6 PX7;have hxt:=Zza9 hxg;have HXT:=hid hxt;clear hx hxm hxg hcells hxt;cases bt with
           | true=>
            go_upto_region 26 with fail;refine Org.begin [] (fun w'=>Below wf.heap.size wf w') [0,1,2,3,4,5,6,7,8,9] (by kernel_rfl) (Zz01 (Below.refl _ _) 1) (fun hS=> ?_);iterate 2 (refine Org.yV (SM.of hS) ?_;try simp only [aS,aN,aA,a0,a1])
            iterate 6 (refine Org.nA (SM.of hS) ?_;try simp only [aS,aN,aA,a0,a1])
            iterate 2 (refine Org.yV (SM.of hS) ?_;try simp only [aS,aN,aA,a0,a1])
            refine Org.done (by kernel_rfl) ?_;have HS26:=hid hS;clear hS;go_wp2_with fail;go_roundw
            case rel=>exact ⟨q+1,true,by omega,rfl,by go_num,by rw [HXT.out];exact hid (Zz60 HBTQ.out),HBWF.out.trans (HS26.out.mono HBWF.out.size)⟩
            case measure=>simp [intOf];omega
           | false=>
            obtain ⟨b1,hb1⟩:∃ b,decide (x.m=m)=b:=⟨_,rfl⟩;have HB1Q:=hid hb1;have hbi:=Zz74 hb1 HBTQ.out;have HBI:=hid hbi;clear hb1 hbi;go_upto_region 26 with fail;refine Org.begin [] (fun w'=>Below wf.heap.size wf w') [0,1,2,3,4,5,6,7,8,9] (by kernel_rfl) (Zz01 (Below.refl _ _) 1) (fun hS=> ?_);iterate 5 (refine Org.yV (SM.of hS) ?_;try simp only [aS,aN,aA,a0,a1])
            (refine Org.yA (v:= ?_) (SM.of hS) ?_ ?_;rotate_left;(focus (intro w hSw;(try dsimp only at hSw);have y0:=(hSw.cell (p:=⟨bbx,ox+q*8,none⟩) HBX.out).trans PX0.out;have y1:=(hSw.cell (p:=⟨bbx,ox+q*8+1,none⟩) HBX.out).trans PX1.out;have y2:=(hSw.cell (p:=⟨bbx,ox+q*8+2,none⟩) HBX.out).trans PX2.out;have y3:=(hSw.cell (p:=⟨bbx,ox+q*8+3,none⟩) HBX.out).trans PX3.out;have y4:=(hSw.cell (p:=⟨bbx,ox+q*8+4,none⟩) HBX.out).trans PX4.out;have y5:=(hSw.cell (p:=⟨bbx,ox+q*8+5,none⟩) HBX.out).trans PX5.out;have y6:=(hSw.cell (p:=⟨bbx,ox+q*8+6,none⟩) HBX.out).trans PX6.out;have y7:=(hSw.cell (p:=⟨bbx,ox+q*8+7,none⟩) HBX.out).trans PX7.out;refine Pure.val ?_;go_simp;(try with_reducible rfl);done));try simp only [aS,aN,aA,a0,a1])
            (refine Org.yA (v:= ?_) (SM.of hS) ?_ ?_;rotate_left;(focus (intro w hSw;(try dsimp only at hSw);have hr:=HM9.out.below hSw HM9.out.lt;obtain ⟨x0,x1,x2,x3,x4,x5,x6,x7⟩:=Row.c8 hr;refine Pure.val ?_;go_simp;(try with_reducible rfl);done));try simp only [aS,aN,aA,a0,a1]);refine Org.gA fun K hK=> ?_
            go_simp;go_at_call 61;refine (Zz4c x.m m wf.heap.size x.Ad x.Ao Adm Aom x.nd x.cd x.no x.co ndm cdm nom com x.ts tsm b1 _ (HRX.out.below hS) (HRM9.out.below hS) hS.size HB1Q.out).mono ?_;rintro e wz ⟨rfl,hbz⟩;have hS3:=hS.trans (hbz.mono hS.size);clear hbz;go_wp2_with fail;refine hK.out _ _ hS3 (fun hS2=> ?_);clear hS3;clear hK K hS;have hS:=hS2;clear hS2;try simp only [aS,aN,aA,a0,a1]
            iterate 2 (refine Org.yV (SM.of hS) ?_;try simp only [aS,aN,aA,a0,a1])
            refine Org.done (by kernel_rfl) ?_;have HS26:=hid hS;clear hS;go_wp2_with fail;go_roundw
            case rel=>exact ⟨q+1,b1,by omega,rfl,by go_num,by rw [HXT.out];exact HBI,HBWF.out.trans (HS26.out.mono HBWF.out.size)⟩
            case measure=>simp [intOf];omega
          ·have hqx':¬ (q:Int) < (nx:Int):=by omega
           obtain rfl:q=nx:=by omega
           have HBT4:=hid (Zz79 HBTQ.out HXF.out.len);clear HBTQ;go_wp2_with fail;go_loopw [15] (fun av wr5=>∃ (p5:Nat) (z:Int),p5≤q∧av= .int .i64 z∧z=(p5:Int)∧Hid (∀ i (h:i < (xs.map MD.m).length),p5≤i→ltM m (xs.map MD.m)[i]=true)∧Below wf.heap.size wf wr5) (fun av _=>(intOf av).toNat)
           case atStart=>exact ⟨q,q,ZnR _,rfl,rfl,hid (fun i h hq=>by rw [List.length_map,HXF.out.len] at h;omega),Below.refl _ _⟩
           case round=>
            obtain ⟨wg,hwg⟩:∃ x,x=wr:=⟨_,rfl⟩;subst hwg;obtain ⟨p5,z,hp5,rfl,hz,HALL,hb5⟩:=hrel;have HBG:=hid (HBOF.out.trans (hb5.mono HBOF.out.size));have HXG:=hid (HXF.out.up hb5);have HMG:=hid (HM9.out.below hb5 HM9.out.lt);have HRMG:=hid ((HRM9.out.below hb5).mono hb5.size);have HB5:=hid hb5;clear hb5;by_cases hp0:p5=0
            ·subst hp0
             obtain rfl:z=0:=by rw [hz];rfl
             clear hz;go_upto_region 28 with fail;refine Org.begin [] (fun w'=>Below wg.heap.size wg w') [0,1,2,3,4,5,6,7,8,9,10,11,12] (by kernel_rfl) (Zz01 (Below.refl _ _) 1) (fun hS=> ?_);iterate 3 (refine Org.yV (SM.of hS) ?_;try simp only [aS,aN,aA,a0,a1])
             iterate 9 (refine Org.nA (SM.of hS) ?_;try simp only [aS,aN,aA,a0,a1])
             (refine Org.yV (SM.of hS) ?_;try simp only [aS,aN,aA,a0,a1]);refine Org.done (by kernel_rfl) ?_;have HS28:=hid hS;clear hS;cases bt with
             | true=>
              have hst:=Zz5x (P:=L) (out:=(ls.take k).foldl (docStep L) []) HTP.out (by rw [HPP.out]) (by rw [HDG.out];exact HW.out) (by rw [← HF.out];exact HBT4.out.1 rfl);have HST:=hid hst;clear hst;go_wp2_with fail;go_roundw
              case rel=>exact ⟨k+1,q,cx,_,xs,by omega,by omega,hcx,rfl,by go_num,HXG.out.up HS28.out,by rw [HFS.out,HST.out];exact HF.out,HBG.out.trans (HS28.out.mono HBG.out.size)⟩
              case measure=>simp [intOf] <;> omega
             | false=>
              have hst:=Zz4l (P:=L) (out:=(ls.take k).foldl (docStep L) []) HTP.out (by rw [HPP.out]) (by rw [HDG.out];exact HW.out) (by rw [← HF.out];exact fun hh=>by have:=HBT4.out.2 hh;cases this);have hins:=Zzh0 ltM_ord m (xs.map MD.m) 0 (by rw [HF.out];exact Zz35 L _ [] List.Pairwise.nil) (by rw [List.length_map,HXG.out.len];omega) HALL.out (fun h h0=>absurd h0 (by omega));rw [← HF.out] at hst;have HST:=hid (hst.trans hins);clear hst hins;go_upto_region 31 with fail;refine Org.begin [] (fun w'=>Below wg.heap.size wg w') [0,1,2,3,4,6,7,8,5,9,10,11] (by kernel_rfl) (Zz01 HS28.out 1) (fun hS=> ?_);iterate 4 (refine Org.yV (SM.of hS) ?_;try simp only [aS,aN,aA,a0,a1])
              (refine Org.yA (v:= ?_) (SM.of hS) ?_ ?_;rotate_left;(focus (intro w hSw;(try dsimp only at hSw);have hr:=HMG.out.below hSw HMG.out.lt;obtain ⟨x0,x1,x2,x3,x4,x5,x6,x7⟩:=Row.c8 hr;refine Pure.val ?_;go_simp;(try with_reducible rfl);done));try simp only [aS,aN,aA,a0,a1]);iterate 3 (refine Org.yV (SM.of hS) ?_;try simp only [aS,aN,aA,a0,a1])
              refine Org.gA fun K hK=> ?_
              refine Zz2c 41 28 (.tmp 150) rfl _ _ _ _ _ _ _ _ rfl im _ _ _ _ _ _ _ _ Tryz.underlying41 him hzm0 hzm1 ?_;rintro wA gA hgA hrA hbA hzA;have HGA:=hid (show wg.heap.size≤gA by rw [← hgA];exact hS.size);rw [← hgA] at hbA;have HRA:=hid hrA;have HBA:=hid (hS.trans (hbA.mono hS.size));clear hrA hbA hzA;refine hK.out _ _ HBA.out (fun hS2=> ?_);clear hK K hS;have hS:=hS2;clear hS2;try simp only [aS,aN,aA,a0,a1]
              refine Org.gA fun K hK=> ?_
              have hbeh:=(show Sl _ _ 8 Ax (q - 0) ((xs.drop 0).flatMap encM) from (HXG.out.below hS).sl);skip;refine Zz0k (.tmp 151) (.tmp 154) 41 rfl wg.heap.size 28 im _ 8 96 Tryz.underlying41 him hzm0 hzm1 hzm2 rfl (by omega) (.slice (some ⟨gA,0,none⟩) 1 1) 1 (encM ⟨m,Adm,ndm,cdm,Aom,nom,com,tsm⟩) (by go_simp) (Zz2o HRA.out rfl HGA.out) _ _ (q - 0) _ _ rfl hbeh (Zz5m _) (1+(q - 0)) rfl _ rfl (by omega) (by omega) hS.size ?_;rintro A7 c7 wB ho7 hg7 _;have hb7:=Zz04 hS (Zz2o HRA.out rfl HGA.out) hg7 (ZnR _) hS.size;have HO7:=hid ho7;have HBB:=hid hb7;clear ho7 hg7 hb7;refine hK.out _ _ HBB.out (fun hS2=> ?_);clear hK K hS;have hS:=hS2;clear hS2;try simp only [aS,aN,aA,a0,a1]
              refine Org.gA fun K hK=> ?_
              have hfr:=(HXG.out.below hS).front (k:=0) (by omega);refine Zz1k (.tmp 149) (.tmp 155) 41 rfl 28 im _ 8 96 Tryz.underlying41 him hzm0 hzm1 hzm2 rfl (by omega) _ _ 0 _ (by go_simp) hfr _ A7 (1+(q - 0)) c7 _ (by go_simp) (Sl.own HO7.out) (Zz6h _ _) (by omega) (q+1) (by omega) _ rfl (by omega) (by omega) ?_;rintro A8 c8 wC ho8 hb8;have HO8:=hid ho8;have HBC:=hid (hS.trans (hb8.mono hS.size));clear ho8 hb8;refine hK.out _ _ HBC.out (fun hS2=> ?_);clear hK K hS;have hS:=hS2;clear hS2;try simp only [aS,aN,aA,a0,a1]
              (refine Org.yV (SM.of hS) ?_;try simp only [aS,aN,aA,a0,a1]);refine Org.done (by kernel_rfl) ?_;have HSE:=hid hS;clear hS;go_wp2_with fail;have hrx:=RMs.insert (HXG.out.up HSE.out) ⟨m,Adm,ndm,cdm,Aom,nom,com,tsm⟩ (HRMG.out.below HSE.out |>.mono HSE.out.size) (q:=0) (by omega) HO8.out;have HRX8:=hid hrx;have HC8:=hid (Zz14 HO8.out);clear hrx;go_roundw
              case rel=>exact ⟨k+1,q+1,c8,A8,xs.take 0++⟨m,Adm,ndm,cdm,Aom,nom,com,tsm⟩::xs.drop 0,by omega,by omega,HC8.out,rfl,by go_num,HRX8.out,by rw [HFS.out,← HF.out,HST.out,List.map_append,List.map_cons,List.map_take,List.map_drop];exact hid rfl,HBG.out.trans (HSE.out.mono HBG.out.size)⟩
              case measure=>simp [intOf] <;> omega
            ·obtain ⟨jj,hjj⟩:∃ j,p5=j+1:=⟨p5 - 1,by omega⟩
             subst hz;have hsub:IntKind.i64.wrap ((p5:Int) - 1)=(jj:Int):=by rw [IntKind.wrap_i64];omega
             have hwj:IntKind.i64.wrap (jj:Int)=(jj:Int):=by rw [IntKind.wrap_i64];omega
             have hj0:(0:Int)≤(jj:Int):=by omega
             have hjn:(jj:Int) < (q:Int):=by omega
             have hqc:(p5:Int)≤(cx:Int):=by omega
             have hq00:(0:Int)≤(p5:Int):=by omega
             obtain ⟨bbx,ox,rfl,hbbx,hxm,hxg,hcells⟩:=HXG.out.get (i:=jj) (by omega);obtain ⟨x,hx⟩:∃ x,xs[jj]! =x:=⟨_,rfl⟩;rw [hx] at hxm hcells hxg;have PX0:=hid (hcells 0 _ rfl);simp only [Nat.add_zero] at PX0;have HBX:=hid hbbx;have hxj:∀ h:jj < (xs.map MD.m).length,(xs.map MD.m)[jj]=x.m:=fun h=>by
              have h2:(xs.map MD.m)[jj]? =some x.m:=by rw [List.getElem?_map,hxg];rfl
              rw [ZgE h] at h2;injection h2
             have hxq:∀ h:p5 - 1 < (xs.map MD.m).length,(xs.map MD.m)[p5 - 1]=x.m:=fun h=>by
              have e:p5 - 1=jj:=by omega
              simp only [e];exact hxj _
             have HXJ:=hid hxj;have HXQ:=hid hxq;have HJ:=hid hjj;clear hx hxm hxg hcells hxj hxq hjj;by_cases hls:x.m.seq < m.seq
             ·go_upto_region 28 with fail
              refine Org.begin [] (fun w'=>Below wg.heap.size wg w') [0,1,2,3,4,5,6,7,8,9,10,11,12] (by kernel_rfl) (Zz01 (Below.refl _ _) 1) (fun hS=> ?_);(refine Org.yV (SM.of hS) ?_;try simp only [aS,aN,aA,a0,a1]);(refine Org.yA (v:= ?_) (SM.of hS) ?_ ?_;rotate_left;(focus (intro w hSw;(try dsimp only at hSw);refine Pure.val (v:= .bool true) ?_;go_simp;first | done | omega));try simp only [aS,aN,aA,a0,a1]);iterate 6 (refine Org.yV (SM.of hS) ?_;try simp only [aS,aN,aA,a0,a1])
              (refine Org.yA (v:= ?_) (SM.of hS) ?_ ?_;rotate_left;(focus (intro w hSw;(try dsimp only at hSw);have y0:=(hSw.cell (p:=⟨bbx,ox+(jj*8),none⟩) HBX.out).trans PX0.out;refine Pure.val ?_;go_simp;(try with_reducible rfl);done));try simp only [aS,aN,aA,a0,a1]);(refine Org.yV (SM.of hS) ?_;try simp only [aS,aN,aA,a0,a1]);(refine Org.yA (v:= ?_) (SM.of hS) ?_ ?_;rotate_left;(focus (intro w hSw;(try dsimp only at hSw);have hr:=HMG.out.below hSw HMG.out.lt;have x0:=hr.cell 0;simp only [ZgZ] at x0;refine Pure.val ?_;go_simp;(try with_reducible rfl);done));try simp only [aS,aN,aA,a0,a1]);iterate 2 (refine Org.yV (SM.of hS) ?_;try simp only [aS,aN,aA,a0,a1])
              refine Org.done (by kernel_rfl) ?_;have HS28:=hid hS;clear hS;go_wp2_with fail;have hj2:=HJ.out;clear HJ;go_roundw
              case rel=>exact ⟨jj,_,by omega,rfl,by go_num,hid (fun i h hji=>by
               by_cases e:i=jj
               ·subst e;rw [HXJ.out h];exact decide_eq_true hls
               ·exact HALL.out i h (by omega)),HB5.out.trans (HS28.out.mono HB5.out.size)⟩
              case measure=>simp [intOf] <;> omega
             ·go_upto_region 28 with fail
              refine Org.begin [] (fun w'=>Below wg.heap.size wg w') [0,1,2,3,4,5,6,7,8,9,10,11,12] (by kernel_rfl) (Zz01 (Below.refl _ _) 1) (fun hS=> ?_);(refine Org.yV (SM.of hS) ?_;try simp only [aS,aN,aA,a0,a1]);(refine Org.yA (v:= ?_) (SM.of hS) ?_ ?_;rotate_left;(focus (intro w hSw;(try dsimp only at hSw);refine Pure.val (v:= .bool true) ?_;go_simp;first | done | omega));try simp only [aS,aN,aA,a0,a1]);iterate 6 (refine Org.yV (SM.of hS) ?_;try simp only [aS,aN,aA,a0,a1])
              (refine Org.yA (v:= ?_) (SM.of hS) ?_ ?_;rotate_left;(focus (intro w hSw;(try dsimp only at hSw);have y0:=(hSw.cell (p:=⟨bbx,ox+(jj*8),none⟩) HBX.out).trans PX0.out;refine Pure.val ?_;go_simp;(try with_reducible rfl);done));try simp only [aS,aN,aA,a0,a1]);(refine Org.yV (SM.of hS) ?_;try simp only [aS,aN,aA,a0,a1]);(refine Org.yA (v:= ?_) (SM.of hS) ?_ ?_;rotate_left;(focus (intro w hSw;(try dsimp only at hSw);have hr:=HMG.out.below hSw HMG.out.lt;have x0:=hr.cell 0;simp only [ZgZ] at x0;refine Pure.val ?_;go_simp;(try with_reducible rfl);done));try simp only [aS,aN,aA,a0,a1]);iterate 2 (refine Org.yV (SM.of hS) ?_;try simp only [aS,aN,aA,a0,a1])
              refine Org.done (by kernel_rfl) ?_;have HS28:=hid hS;clear hS;cases bt with
              | true=>
               have hst:=Zz5x (P:=L) (out:=(ls.take k).foldl (docStep L) []) HTP.out (by rw [HPP.out]) (by rw [HDG.out];exact HW.out) (by rw [← HF.out];exact HBT4.out.1 rfl);have HST:=hid hst;clear hst;go_wp2_with fail;go_roundw
               case rel=>exact ⟨k+1,q,cx,_,xs,by omega,by omega,hcx,rfl,by go_num,HXG.out.up HS28.out,by rw [HFS.out,HST.out];exact HF.out,HBG.out.trans (HS28.out.mono HBG.out.size)⟩
               case measure=>simp [intOf] <;> omega
              | false=>
               have hst:=Zz4l (P:=L) (out:=(ls.take k).foldl (docStep L) []) HTP.out (by rw [HPP.out]) (by rw [HDG.out];exact HW.out) (by rw [← HF.out];exact fun hh=>by have:=HBT4.out.2 hh;cases this);have hins:=Zzh0 ltM_ord m (xs.map MD.m) p5 (by rw [HF.out];exact Zz35 L _ [] List.Pairwise.nil) (by rw [List.length_map,HXG.out.len];omega) HALL.out (fun h h0=>by rw [HXQ.out h];exact decide_eq_false hls);rw [← HF.out] at hst;have HST:=hid (hst.trans hins);clear hst hins;go_upto_region 31 with fail;refine Org.begin [] (fun w'=>Below wg.heap.size wg w') [0,1,2,3,4,6,7,8,5,9,10,11] (by kernel_rfl) (Zz01 HS28.out 1) (fun hS=> ?_)
               iterate 4 (refine Org.yV (SM.of hS) ?_;try simp only [aS,aN,aA,a0,a1])
               (refine Org.yA (v:= ?_) (SM.of hS) ?_ ?_;rotate_left;(focus (intro w hSw;(try dsimp only at hSw);have hr:=HMG.out.below hSw HMG.out.lt;obtain ⟨x0,x1,x2,x3,x4,x5,x6,x7⟩:=Row.c8 hr;refine Pure.val ?_;go_simp;(try with_reducible rfl);done));try simp only [aS,aN,aA,a0,a1]);iterate 3 (refine Org.yV (SM.of hS) ?_;try simp only [aS,aN,aA,a0,a1])
               refine Org.gA fun K hK=> ?_
               refine Zz2c 41 28 (.tmp 150) rfl _ _ _ _ _ _ _ _ rfl im _ _ _ _ _ _ _ _ Tryz.underlying41 him hzm0 hzm1 ?_;rintro wA gA hgA hrA hbA hzA;have HGA:=hid (show wg.heap.size≤gA by rw [← hgA];exact hS.size);rw [← hgA] at hbA;have HRA:=hid hrA;have HBA:=hid (hS.trans (hbA.mono hS.size));clear hrA hbA hzA;refine hK.out _ _ HBA.out (fun hS2=> ?_);clear hK K hS;have hS:=hS2;clear hS2;try simp only [aS,aN,aA,a0,a1]
               refine Org.gA fun K hK=> ?_
               have hbeh:=(HXG.out.below hS).behind (k:=p5) (c:=cx) (by omega) hcx.1;simp only [Option.map_some,Zz0m] at hbeh;refine Zz0k (.tmp 151) (.tmp 154) 41 rfl wg.heap.size 28 im _ 8 96 Tryz.underlying41 him hzm0 hzm1 hzm2 rfl (by omega) (.slice (some ⟨gA,0,none⟩) 1 1) 1 (encM ⟨m,Adm,ndm,cdm,Aom,nom,com,tsm⟩) (by go_simp) (Zz2o HRA.out rfl HGA.out) _ _ (q - p5) _ _ rfl hbeh (Zz5m _) (1+(q - p5)) rfl _ rfl (by omega) (by omega) hS.size ?_;rintro A7 c7 wB ho7 hg7 _;have hb7:=Zz04 hS (Zz2o HRA.out rfl HGA.out) hg7 (ZnR _) hS.size;have HO7:=hid ho7;have HBB:=hid hb7;clear ho7 hg7 hb7;refine hK.out _ _ HBB.out (fun hS2=> ?_);clear hK K hS;have hS:=hS2;clear hS2
               try simp only [aS,aN,aA,a0,a1]
               refine Org.gA fun K hK=> ?_
               have hfr:=(HXG.out.below hS).front (k:=p5) (by omega);refine Zz1k (.tmp 149) (.tmp 155) 41 rfl 28 im _ 8 96 Tryz.underlying41 him hzm0 hzm1 hzm2 rfl (by omega) _ _ p5 _ (by go_simp) hfr _ A7 (1+(q - p5)) c7 _ (by go_simp) (Sl.own HO7.out) (Zz6h _ _) (by omega) (q+1) (by omega) _ rfl (by omega) (by omega) ?_;rintro A8 c8 wC ho8 hb8;have HO8:=hid ho8;have HBC:=hid (hS.trans (hb8.mono hS.size));clear ho8 hb8;refine hK.out _ _ HBC.out (fun hS2=> ?_);clear hK K hS;have hS:=hS2;clear hS2;try simp only [aS,aN,aA,a0,a1]
               (refine Org.yV (SM.of hS) ?_;try simp only [aS,aN,aA,a0,a1]);refine Org.done (by kernel_rfl) ?_;have HSE:=hid hS;clear hS;go_wp2_with fail;have hrx:=RMs.insert (HXG.out.up HSE.out) ⟨m,Adm,ndm,cdm,Aom,nom,com,tsm⟩ (HRMG.out.below HSE.out |>.mono HSE.out.size) (q:=p5) (by omega) HO8.out;have HRX8:=hid hrx;have HC8:=hid (Zz14 HO8.out);clear hrx;go_roundw
               case rel=>exact ⟨k+1,q+1,c8,A8,xs.take p5++⟨m,Adm,ndm,cdm,Aom,nom,com,tsm⟩::xs.drop p5,by omega,by omega,HC8.out,rfl,by go_num,HRX8.out,by rw [HFS.out,← HF.out,HST.out,List.map_append,List.map_cons,List.map_take,List.map_drop];exact hid rfl,HBG.out.trans (HSE.out.mono HBG.out.size)⟩
               case measure=>simp [intOf] <;> omega
    ·have hst:=Zzcy (P:=L) (out:=(ls.take k).foldl (docStep L) []) HT.out h0
     have HST:=hid hst;clear hst;have hr:=HR3.out;have z0:=hr.cell 0;have z1:=hr.cell 1;have z2:=hr.cell 2;have z3:=hr.cell 3;simp only [ZgS,ZgZ] at z0 z1 z2 z3;clear hr;go_wp2_with fail;go_roundw
     case rel=>exact ⟨k+1,nx,cx,Ax,xs,by omega,by omega,hcx,rfl,by go_num,HXS3.out,by rw [HFS.out,HST.out];exact HF.out,HB3.out⟩
     case measure=>simp [intOf] <;> omega
  ·have hlt':¬ (k:Int) < (n:Int):=by omega
   obtain rfl:k=n:=by omega
   have hF:=HF.out;rw [ZtL (by rw [HL.out];exact ZnR _),← HDJ.out] at hF;have HFF:=hid hF;clear hF;go_wp2_with fail;go_ret
   exact ⟨Ax,nx,cx,xs,rfl,by rw [← HFF.out,List.length_map,HXSR.out.len],hcx,HXSR.out,HFF.out,HBR.out⟩
end Go.Proofs.YtnknjeipfjdjoaaGreatDoor
