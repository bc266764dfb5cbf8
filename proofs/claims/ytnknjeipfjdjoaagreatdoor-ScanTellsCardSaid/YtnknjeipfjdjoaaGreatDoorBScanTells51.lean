/- Room LawRecs RefWhole RefRoom Wakes20 Manis RecSmall Mixed PageAlt -/
import Derived.BigGuardPart
import Derived.Test.YtnknjeipfjdjoaaGreatDoorBScanTells38
import Derived.Test.YtnknjeipfjdjoaaGreatDoorBScanTells39
import Derived.Test.YtnknjeipfjdjoaaGreatDoorBScanTells49
import Derived.Test.YtnknjeipfjdjoaaGreatDoorBScanTells50
set_option maxHeartbeats 8000000
set_option maxRecDepth 20000
set_option linter.unusedSimpArgs false
set_option linter.unusedVariables false
namespace Go.Proofs.YtnknjeipfjdjoaaGreatDoor
open Go.RowKit Wells
theorem Zzeo {m:Mani} {l:List (List Byte)} {r:Rec} (h:r∈recsL m l):(∃ c∈l,takeR c=some r)∧countsM m r=true:=by
 unfold recsL cntL at h;have h1:=Zz2d.1 (Zzfg h);obtain ⟨h2,h3⟩:=List.mem_filter.1 h1;obtain ⟨c,hc,hr⟩:=List.mem_filterMap.1 h2;exact ⟨⟨c,hc,hr⟩,h3⟩
theorem Zz3h (m:Mani) (l:List (List Byte)):(recsL m l).length≤l.length:=by
 unfold recsL;have h1:=Zz3t (lt:=ltR) (ssort ltR (cntL m l));rw [Zz09] at h1;have h2:=Zz1r m l;omega
theorem Zzcx (B0:Nat) (A A2:Option Addr) (n n2 c c2:Nat) (xs ys:List RD) (b:Bool) (w:World) (h:RRs w B0 A n xs) (h2:RRs w B0 A2 n2 ys) (hB0:B0≤w.heap.size) (hnb:n≤1048576) (hd:∀ x∈xs,x.r.D.length≤1048576) (hd2:∀ x∈ys,x.r.D.length≤1048576) (hb:decide (xs.map RD.r=ys.map RD.r)=b):
  Calls Tryz.prog 13 #[.slice A n c,.slice A2 n2 c2] w fun e w'=>e= .returned (.bool b)∧Below w.heap.size w w':=by
 have H:=hid h;have H2:=hid h2;have HN:=hid h.len;have HN2:=hid h2.len;have HB:=hid hb;have HD:=hid hd;have HD2:=hid hd2;clear h h2 hb hd hd2;go_enter Tryz.func13,Tryz.ntmps13;by_cases hnn:n=n2
 ·subst hnn
  go_wp2_with fail;go_loopw [13] (fun kv wr=>∃ k:Nat,k≤n∧kv= .int .i64 (k:Int)∧Below w.heap.size w wr∧Hid ((xs.map RD.r).take k=(ys.map RD.r).take k)) (fun kv _=>n - (intOf kv).toNat)
  case atStart=>exact ⟨0,Nat.zero_le _,rfl,Below.refl _ _,hid (by simp)⟩
  case round=>
   obtain ⟨k,hk,rfl,hbr,HK⟩:=hrel;have HBR:=hid hbr;clear hbr;by_cases hlt:k < n
   ·have hlt':(k:Int) < (n:Int):=by omega
    have hlt2:k < n:=hlt;obtain ⟨b1,o1,rfl,hb1,hxm,hcx⟩:=(H.out.below (HBR.out.mono hB0)).get hlt;obtain ⟨b2,o2,rfl,hb2,hym,hcy⟩:=(H2.out.below (HBR.out.mono hB0)).get hlt2;replace hb1:=Nat.lt_of_lt_of_le hb1 (ZnT hB0 HBR.out.size);replace hb2:=Nat.lt_of_lt_of_le hb2 (ZnT hB0 HBR.out.size);obtain ⟨x,hx⟩:∃ x,xs[k]! =x:=⟨_,rfl⟩;obtain ⟨y,hy⟩:∃ y,ys[k]! =y:=⟨_,rfl⟩;rw [hx] at hxm hcx;rw [hy] at hym hcy;have hxl:k < xs.length:=by rw [HN.out];exact hlt
    have hyl:k < ys.length:=by rw [HN2.out];exact hlt2
    have htx:(xs.map RD.r).take (k+1)=(xs.map RD.r).take k++ [x.r]:=by
     rw [ZtS (by simpa using hxl),List.getElem_map,← hx,getElem!_pos xs k hxl]
    have hty:(ys.map RD.r).take (k+1)=(ys.map RD.r).take k++ [y.r]:=by
     rw [ZtS (by simpa using hyl),List.getElem_map,← hy,getElem!_pos ys k hyl]
    have hox:=(H.out.below (HBR.out.mono hB0)).at_ _ hxm;have hoy:=(H2.out.below (HBR.out.mono hB0)).at_ _ hym;have hdx:=HD.out _ hxm;have hdy:=HD2.out _ hym;obtain ⟨r,Ar,nr,cr⟩:=x;obtain ⟨q,Aq,nq,cq⟩:=y;have hnr:r.D.length=nr:=by
     obtain ⟨_,_,he,_⟩:=hox;injection he with _ he _;exact he.symm
    have hnq:q.D.length=nq:=by
     obtain ⟨_,_,he,_⟩:=hoy;injection he with _ he _;exact he.symm
    have hnr9:nr≤1048576:=by rw [← hnr];exact hdx
    have hnq9:nq≤1048576:=by rw [← hnq];exact hdy
    have HSR:=hid (show Sl wr wr.heap.size 1 Ar nr (r.D.map bv8) by
     obtain ⟨_,_,he,_,_,hs⟩:=hox;injection he with e1 _ _;subst e1;rw [hnr] at hs;exact hs.mono (ZnT hB0 HBR.out.size))
    have HSQ:=hid (show Sl wr wr.heap.size 1 Aq nq (q.D.map bv8) by
     obtain ⟨_,_,he,_,_,hs⟩:=hoy;injection he with e1 _ _;subst e1;rw [hnq] at hs;exact hs.mono (ZnT hB0 HBR.out.size))
    obtain ⟨eb,heb⟩:∃ b,decide (r=q)=b:=⟨_,rfl⟩;have HEB:=hid heb;have HTX:=hid htx;have HTY:=hid hty;have c0:=hcx 0 _ rfl;have c1:=hcx 1 _ rfl;have c2:=hcx 2 _ rfl;have c3:=hcx 3 _ rfl;have c4:=hcx 4 _ rfl;have c5:=hcx 5 _ rfl;have c6:=hcx 6 _ rfl;have c7:=hcx 7 _ rfl;simp only [Nat.add_zero,RD.dv] at c0 c1 c2 c3 c4 c5 c6 c7;have A0:=hid c0;have A1:=hid c1;have A2:=hid c2;have A3:=hid c3;have A4:=hid c4;have A5:=hid c5;have A6:=hid c6;have A7:=hid c7;clear c0 c1 c2 c3 c4 c5 c6 c7;have d0:=hcy 0 _ rfl;have d1:=hcy 1 _ rfl;have d2:=hcy 2 _ rfl;have d3:=hcy 3 _ rfl;have d4:=hcy 4 _ rfl;have d5:=hcy 5 _ rfl;have d6:=hcy 6 _ rfl;have d7:=hcy 7 _ rfl
    simp only [Nat.add_zero,RD.dv] at d0 d1 d2 d3 d4 d5 d6 d7;have B0:=hid d0;have B1:=hid d1;have B2:=hid d2;have B3:=hid d3;have B4:=hid d4;have B5:=hid d5;have B6:=hid d6;have B7:=hid d7;clear d0 d1 d2 d3 d4 d5 d6 d7;clear hcx hcy hxm hym hx hy hox hoy hdx hdy hnr hnq heb htx hty hxl hyl;go_upto_region 6 with fail;refine Org.begin [] (fun w'=>Below wr.heap.size wr w') [0,1,2,3,4,5,6,7,8,9] (by kernel_rfl) (Zz01 (Below.refl _ _) 1) (fun hS=> ?_);iterate 3 (refine Org.yV (SM.of hS) ?_;try simp only [aS,aN,aA,a0,a1])
    (refine Org.yA (v:= ?_) (SM.of hS) ?_ ?_;rotate_left;(focus (intro w hSw;(try dsimp only at hSw);have y0:=(hSw.cell (p:=⟨b1,o1+k*8,none⟩) hb1).trans A0.out;have y1:=(hSw.cell (p:=⟨b1,o1+k*8+1,none⟩) hb1).trans A1.out;have y2:=(hSw.cell (p:=⟨b1,o1+k*8+2,none⟩) hb1).trans A2.out;have y3:=(hSw.cell (p:=⟨b1,o1+k*8+3,none⟩) hb1).trans A3.out;have y4:=(hSw.cell (p:=⟨b1,o1+k*8+4,none⟩) hb1).trans A4.out;have y5:=(hSw.cell (p:=⟨b1,o1+k*8+5,none⟩) hb1).trans A5.out;have y6:=(hSw.cell (p:=⟨b1,o1+k*8+6,none⟩) hb1).trans A6.out;have y7:=(hSw.cell (p:=⟨b1,o1+k*8+7,none⟩) hb1).trans A7.out;refine Pure.val ?_;go_simp;(try with_reducible rfl);done));try simp only [aS,aN,aA,a0,a1])
    iterate 3 (refine Org.yV (SM.of hS) ?_;try simp only [aS,aN,aA,a0,a1])
    (refine Org.yA (v:= ?_) (SM.of hS) ?_ ?_;rotate_left;(focus (intro w hSw;(try dsimp only at hSw);have z0:=(hSw.cell (p:=⟨b2,o2+k*8,none⟩) hb2).trans B0.out;have z1:=(hSw.cell (p:=⟨b2,o2+k*8+1,none⟩) hb2).trans B1.out;have z2:=(hSw.cell (p:=⟨b2,o2+k*8+2,none⟩) hb2).trans B2.out;have z3:=(hSw.cell (p:=⟨b2,o2+k*8+3,none⟩) hb2).trans B3.out;have z4:=(hSw.cell (p:=⟨b2,o2+k*8+4,none⟩) hb2).trans B4.out;have z5:=(hSw.cell (p:=⟨b2,o2+k*8+5,none⟩) hb2).trans B5.out;have z6:=(hSw.cell (p:=⟨b2,o2+k*8+6,none⟩) hb2).trans B6.out;have z7:=(hSw.cell (p:=⟨b2,o2+k*8+7,none⟩) hb2).trans B7.out;refine Pure.val ?_;go_simp;(try with_reducible rfl);done));try simp only [aS,aN,aA,a0,a1])
    refine Org.gA fun K hK=> ?_
    go_simp;go_at_call 42;refine (Zz9r r q Ar Aq nr nq cr cq eb wr.heap.size _ (HSR.out.below hS) (HSQ.out.below hS) hS.size hnr9 hnq9 HEB.out).mono ?_;rintro e wz ⟨rfl,hbz⟩;have HBZ:=hid (hS.trans (hbz.mono hS.size));clear hbz;go_wp2_with fail;refine hK.out _ _ HBZ.out (fun hS2=> ?_);clear hK K hS;have hS:=hS2;clear hS2;try simp only [aS,aN,aA,a0,a1]
    (refine Org.yV (SM.of hS) ?_;try simp only [aS,aN,aA,a0,a1]);refine Org.done (by kernel_rfl) ?_;skip;clear hS;cases eb with
    | true=>
     have HRQ:=hid (show r=q from of_decide_eq_true HEB.out);go_wp2_with fail;go_roundw
     case rel=>exact ⟨k+1,by omega,by go_num,HBR.out.trans (HBZ.out.mono HBR.out.size),hid (by rw [HTX.out,HTY.out,HK.out];show _++ [r]=_++ [q];rw [HRQ.out])⟩
     case measure=>simp [intOf];omega
    | false=>
     have hbf:b=false:=by
      rw [← HB.out,decide_eq_false];intro he;have h1:(xs.map RD.r).take (k+1)=(ys.map RD.r).take (k+1):=by rw [he]
      rw [HTX.out,HTY.out,HK.out] at h1;have h3:=List.append_cancel_left h1;injection h3 with h3 _;exact of_decide_eq_false HEB.out h3
     subst hbf;go_wp2_with fail;go_ret
     exact ⟨rfl,HBR.out.trans (HBZ.out.mono HBR.out.size)⟩
   ·have hlt':¬ (k:Int) < (n:Int):=by omega
    have hbt:b=true:=by
     rw [← HB.out,decide_eq_true_eq];have h1:=HK.out;rw [ZtL (by rw [List.length_map,HN.out];omega),ZtL (by rw [List.length_map,HN2.out];omega)] at h1;exact h1
    subst hbt;go_wp2_with fail;go_ret
    exact ⟨rfl,HBR.out⟩
 ·have hnn':¬ (n:Int)=(n2:Int):=by omega
  have hbf:b=false:=by
   rw [← HB.out,decide_eq_false];intro he;have:=congrArg List.length he
   rw [List.length_map,List.length_map,HN.out,HN2.out] at this;exact hnn this
  subst hbf;go_wp2_with fail;go_ret
  exact ⟨rfl,Below.refl _ _⟩
theorem Zz9s {m:Mani} {l:List (List Byte)} {k:Nat} (hk:k < (pagesL m.seq (pack m)).length) (h:inL l ((pagesL m.seq (pack m)).getD k [])=false):wholeM m l=false:=by
 unfold wholeM;rw [Bool.and_eq_false_iff];refine .inr ?_;rw [List.all_eq_false];rw [ZgD,ZgE hk,Option.getD_some] at h;exact ⟨_,List.getElem_mem hk,by rw [h];decide⟩
theorem Zzak {m:Mani} {l:List (List Byte)} (hm:m.may=true) (h:∀ j,j < (pagesL m.seq (pack m)).length→inL l ((pagesL m.seq (pack m)).getD j [])=true):wholeM m l=true:=by
 unfold wholeM;rw [hm,Bool.true_and,List.all_eq_true];intro x hx;obtain ⟨j,hj,rfl⟩:=List.getElem_of_mem hx;have:=h j hj
 rwa [ZgD,ZgE hj,Option.getD_some] at this
theorem Zz5y {l:List (List Byte)} {c p:List Byte} (h:true=l.any fun x=>decide (x=p)):true=(l++ [c]).any fun x=>decide (x=p):=by
 rw [List.any_append,← h];rfl
theorem Zzgy {l:List (List Byte)} {c p:List Byte} {r:Bool} (h:false=l.any fun x=>decide (x=p)) (hr:decide (p=c)=r):r=(l++ [c]).any fun x=>decide (x=p):=by
 rw [List.any_append,← h,← hr];simp [eq_comm]
theorem Zz7e (G:Nat→Prop) (gr qg:Nat) (d:Dr) (mk:Nat) (m:Mani) (B:Nat) (Ad Ao:Option Addr) (nd cd no co:Nat) (ts:List Value) (b:Bool) (w:World) (h:RDrvE G w gr qg d) (hok:DOk mk d) (hm:RM w B m Ad nd cd Ao no co ts) (hB:B≤w.heap.size) (h64:M64 m) (hnm:∀ e∈m.objs,e.name.length≤1048576) (hb:wholeM m d.L=b):
  Calls Tryz.prog 17 #[.pointer (some ⟨gr,0,none⟩),m.val (.slice Ad nd cd) (.slice Ao no co)] w fun e w'=>e= .returned (.bool b)∧Below w.heap.size w w':=by
 have hbx:Below w.heap.size w (w.alloc (.cells #[.int .i64 m.seq,.int .i64 m.next,.int .i64 m.P.K,.int .i64 m.P.H,.int .i64 m.P.S,.int .i64 m.extra,.slice Ad nd cd,.slice Ao no co] 28)):=(Below.refl _ _).alloc (ZnR _) _;have hx:=Row.new w 28 #[.int .i64 m.seq,.int .i64 m.next,.int .i64 m.P.K,.int .i64 m.P.H,.int .i64 m.P.S,.int .i64 m.extra,.slice Ad nd cd,.slice Ao no co];have HX:=hid hx;have HM:=hid ((hm.below (hbx.mono hB)).mono (ZnT hB hbx.size));have HBX:=hid hbx;have HBB:=hid hb;have H64:=hid h64;have HNM:=hid hnm;have hll:=hok.len;have hrm:=hok.room;have HC:=hid hok.cells;obtain ⟨lv,lvs,bv,bvs,hr⟩:=h.new_ hbx;obtain ⟨Al,cl,rfl,hlc,hlc2⟩:=hr.l.own.form
 obtain ⟨nl,hn⟩:∃ n,d.L.length=n:=⟨_,rfl⟩;have hrd:=hr.l.own.read rfl;rw [hn] at hr hlc hrd hll;have HRD:=hid hrd;have HN:=hid hn;have HROW:=hid hr.row;obtain ⟨x0,x1,x2,x3,x4,x5,x6,x7⟩:=Row.c8 hx;obtain ⟨bm,hbm⟩:∃ q,m.may=q:=⟨_,rfl⟩;have HBM:=hid hbm;clear hbx h hm hx hr hrd hn hb h64 hnm hbm;unfold Mani.val;go_enter Tryz.func17,Tryz.ntmps17;go_wp2_with fail;generalize w.alloc (.cells #[.int .i64 m.seq,.int .i64 m.next,.int .i64 m.P.K,.int .i64 m.P.H,.int .i64 m.P.S,.int .i64 m.extra,.slice Ad nd cd,.slice Ao no co] 28)=w1 at*;obtain ⟨gx,hgx⟩:∃ g,w.heap.size=g:=⟨_,rfl⟩;have HGX:=hid hgx;rw [hgx] at HX x0 x1 x2 x3 x4 x5 x6 x7 ⊢;clear hgx
 refine (Zz2k m w1.heap.size Ad Ao nd cd no co ts bm w1 HM.out (ZnR _) H64.out HNM.out HBM.out).mono ?_;rintro e w2 ⟨rfl,hb2⟩;cases bm with
 | false=>
  have hbf:b=false:=by rw [← HBB.out];unfold wholeM;rw [HBM.out];rfl
  subst hbf;have hbe:Below w.heap.size w w2:=HBX.out.trans (hb2.mono HBX.out.size);clear hb2;go_wp2_with fail;go_ret
  exact ⟨rfl,hbe⟩
 | true=>
  have HB2:=hid hb2;have hx2:=HX.out.below hb2 HX.out.lt;replace x0:=hx2.cell 0;replace x1:=hx2.cell 1;replace x2:=hx2.cell 2;replace x3:=hx2.cell 3;replace x4:=hx2.cell 4;replace x5:=hx2.cell 5;replace x6:=hx2.cell 6;replace x7:=hx2.cell 7;simp only [ZgS,ZgZ] at x0 x1 x2 x3 x4 x5 x6 x7;clear hx2 hb2;go_wp2_with fail;refine (Zz1g m w2.heap.size Ad Ao nd cd no co ts w2 ((HM.out.below HB2.out).mono HB2.out.size) (ZnR _) H64.out HNM.out).mono ?_;rintro e w3 ⟨Ap,cp,vsp,rfl,hop,hb3⟩;obtain ⟨LP,hLP⟩:∃ q,pagesL m.seq (pack m)=q:=⟨_,rfl⟩;have h9:=Zz18 m;rw [hLP] at hop h9 ⊢;obtain ⟨np,hnp⟩:∃ q,LP.length=q:=⟨_,rfl⟩;rw [hnp] at h9 ⊢;have hop':=hop;rw [hnp] at hop';have HRB:=hid (hop'.read hnp)
  have HLP:=hid hLP;have HNP:=hid hnp;have HPL:=hid (show ∀ j,j < np→(LP.getD j []).length=64 from fun j hj=>by
   have hj':j < LP.length:=by rw [HNP.out];exact hj
   rw [ZgD,ZgE hj',Option.getD_some];exact Zz5h m.seq (pack m) _ (by rw [HLP.out];exact List.getElem_mem hj'))
  have HB13:=hid (HB2.out.trans (hb3.mono HB2.out.size));clear x0 x1 x2 x3 x4 x5 x6 x7 hop hop' hb3 hLP hnp;go_wp2_with fail;go_loopw [16] (fun iv wr=>∃ k:Nat,k≤np∧iv= .int .i64 (k:Int)∧Hid (∀ j,j < k→inL d.L (LP.getD j [])=true)∧Below w3.heap.size w3 wr) (fun iv _=>np - (intOf iv).toNat)
  case atStart=>exact ⟨0,Nat.zero_le _,rfl,hid (fun j hj=>absurd hj (Nat.not_lt_zero _)),Below.refl _ _⟩
  case round=>
   obtain ⟨k,hk,rfl,HK,hbr⟩:=hrel;obtain ⟨wi,hwi⟩:∃ x,x=wr:=⟨_,rfl⟩;subst hwi;have HBR:=hid hbr;have HB1i:=hid (HB13.out.trans (hbr.mono HB13.out.size));clear hbr;by_cases hlt:k < np
   ·have hlt':(k:Int) < (np:Int):=by omega
    obtain ⟨bb,o,A',c',rfl,hbb,hcell,hc1,hc2,hsl⟩:=(HRB.out.below HBR.out).get hlt;have h64p:=HPL.out k hlt;obtain ⟨p,hp⟩:∃ p,LP.getD k []=p:=⟨_,rfl⟩;rw [hp] at hcell hc1 hsl h64p;rw [h64p] at hcell hc1 hsl;have HP:=hid hp;have HSP:=hid (hsl.mono HBR.out.size);have c2:wi.cell? ⟨gr,2,none⟩=some (.slice Al nl cl):=(HROW.out.below HB1i.out HROW.out.lt).cell 2;clear hp hsl h64p;go_wp2_with fail;clear c2 hcell;go_loopw [7,25] (fun tv jv wr=>∃ (j:Nat) (t:Bool),j≤nl∧jv= .int .i64 (j:Int)∧tv= .bool t∧Hid (t=(d.L.take j).any fun c=>decide (c=p))∧Below wi.heap.size wi wr) (fun _ jv _=>nl - (intOf jv).toNat)
    case atStart=>exact ⟨0,false,Nat.zero_le _,rfl,rfl,hid (by simp),Below.refl _ _⟩
    case round=>
     obtain ⟨j,t,hj,rfl,rfl,HT,hbw⟩:=hrel;have HBW:=hid hbw;have HB1w:=hid (HB1i.out.trans (hbw.mono HB1i.out.size));clear hbw;by_cases hjl:j < nl
     ·have hjl':(j:Int) < (nl:Int):=by omega
      obtain ⟨b1,o1,A1,c1,rfl,hb1,hcell1,hc11,hc12,hsl1⟩:=(HRD.out.below HB1w.out).get hjl;obtain ⟨x,hx⟩:∃ x,d.L.getD j []=x:=⟨_,rfl⟩;rw [hx] at hcell1 hsl1 hc11;have hjn:j < d.L.length:=by rw [HN.out];exact hjl
      have hx64:x.length=64:=by
       rw [← hx,ZgD,ZgE hjn];exact HC.out _ (List.getElem_mem _)
      have htk:d.L.take (j+1)=d.L.take j++ [x]:=by
       rw [ZtS hjn,← hx,ZgD,ZgE hjn];rfl
      rw [hx64] at hcell1 hsl1 hc11;have HSX:=hid (hsl1.mono HB1w.out.size);have HTK:=hid htk;clear hx hsl1 hjn hx64 htk;cases t with
      | true=>
       go_wp2_with fail;go_roundw
       case rel=>exact ⟨j+1,true,by omega,by go_num,rfl,hid (by rw [HTK.out];exact Zz5y HT.out),HBW.out⟩
       case measure=>simp [intOf];omega
      | false=>
       obtain ⟨r,hr⟩:∃ r,decide (p=x)=r:=⟨_,rfl⟩;have HR:=hid hr;clear hr;go_wp2_with fail;refine (Zz2m r _ A' A1 p x 64 64 c' c1 wr ((HSP.out.below HBW.out).mono HBW.out.size) HSX.out (by omega) (by omega) HR.out).mono ?_;rintro e w5 ⟨rfl,dd,rfl⟩;go_wp2_with fail;go_roundw
       case rel=>exact ⟨j+1,r,by omega,by go_num,rfl,hid (by rw [HTK.out];exact Zzgy HT.out HR.out),Zz01 HBW.out dd⟩
       case measure=>simp [intOf];omega
     ·obtain rfl:j=nl:=by omega
      have hjl':¬ (j:Int) < (j:Int):=by omega
      have hin:t=inL d.L p:=by
       rw [HT.out,ZtL (by rw [HN.out];exact ZnR _)];rfl
      cases t with
      | true=>
       have HIN:=hid hin;clear hin;go_wp2_with fail;go_roundw
       case rel=>exact ⟨k+1,by omega,by go_num,hid (fun i hi=>by
        rcases Nat.lt_succ_iff_lt_or_eq.1 hi with h | rfl
        ·exact HK.out i h
        ·rw [HP.out];exact HIN.out.symm),HBR.out.trans (HBW.out.mono HBR.out.size)⟩
       case measure=>simp [intOf];omega
      | false=>
       have hbf:b=false:=by
        rw [← HBB.out];exact Zz9s (k:=k) (by rw [HLP.out,HNP.out];exact hlt) (by rw [HLP.out,HP.out];exact hin.symm)
       subst hbf;have hbe:Below w.heap.size w wr:=HBX.out.trans (HB1w.out.mono HBX.out.size);clear hin;go_wp2_with fail;go_ret
       exact ⟨rfl,hbe⟩
   ·obtain rfl:k=np:=by omega
    have hlt':¬ (k:Int) < (k:Int):=by omega
    have hbt:b=true:=by
     rw [← HBB.out];exact Zzak HBM.out (fun j hj=>by rw [HLP.out] at hj ⊢;exact HK.out j (by rw [← HNP.out];exact hj))
    subst hbt;have hbe:Below w.heap.size w wi:=HBX.out.trans (HB1i.out.mono HBX.out.size);go_wp2_with fail;go_ret
    exact ⟨rfl,hbe⟩
theorem Zz9y (G:Nat→Prop) (gr qg:Nat) (d:Dr) (mk:Nat) (m:Mani) (B:Nat) (Ad Ao:Option Addr) (nd cd no co:Nat) (ts:List Value) (w:World) (h:RDrvE G w gr qg d) (hok:DOk mk d) (hm:RM w B m Ad nd cd Ao no co ts) (hB:B≤w.heap.size) (hno:no≤9223372036854775807):
  Calls Tryz.prog 60 #[.pointer (some ⟨gr,0,none⟩),m.val (.slice Ad nd cd) (.slice Ao no co)] w (CelR w ((recsL m d.L).map putR)):=by
 have hb:Below w.heap.size w (w.alloc (.cells #[.int .i64 m.seq,.int .i64 m.next,.int .i64 m.P.K,.int .i64 m.P.H,.int .i64 m.P.S,.int .i64 m.extra,.slice Ad nd cd,.slice Ao no co] 28)):=(Below.refl _ _).alloc (ZnR _) _;have H1:=hid (h.new_ hb);have hx:=Row.new w 28 #[.int .i64 m.seq,.int .i64 m.next,.int .i64 m.P.K,.int .i64 m.P.H,.int .i64 m.P.S,.int .i64 m.extra,.slice Ad nd cd,.slice Ao no co];have HX:=hid hx;have HM:=hid (hm.below (hb.mono hB));have HBW:=hid hb;have hll:=hok.len;have hrm:=hok.room;have hrl:=Zz3h m d.L;obtain ⟨ibs,hibs,hzb0,hzb1,hzb2⟩:=info_parts infoBs;have hr:=HX.out;obtain ⟨x0,x1,x2,x3,x4,x5,x6,x7⟩:=Row.c8 hr;clear hr;clear hb h hm hx;unfold Mani.val
 go_enter Tryz.func60,Tryz.ntmps60;go_wp2_with fail;generalize w.alloc (.cells #[.int .i64 m.seq,.int .i64 m.next,.int .i64 m.P.K,.int .i64 m.P.H,.int .i64 m.P.S,.int .i64 m.extra,.slice Ad nd cd,.slice Ao no co] 28)=w1 at*;refine (Zz4o G gr qg d mk m B Ad Ao nd cd no co ts w1 H1.out hok HM.out (ZnT hB HBW.out.size) hno).mono ?_;rintro e w2 ⟨A,n,c,xs,rfl,hn,hnc,ho,hmap,hb2⟩;have hn512:n≤512:=by omega
 have HO:=hid ho;have HMAP:=hid hmap;have HXN:=hid ho.len;have HB2:=hid (HBW.out.trans (hb2.mono HBW.out.size));clear ho hmap hn hb2 x0 x1 x2 x3 x4 x5 x6 x7;go_wp2_with fail;go_loopw [5,12] (fun v i wr=>∃ (k:Nat) (A2:Option Addr) (c2:Nat) (vs:List Value),k≤n∧v= .slice A2 k c2∧i= .int .i64 (k:Int)∧(k≤c2∧c2≤9223372036854775807)∧OBs w2.heap.size wr (.slice A2 k c2) vs (((recsL m d.L).map putR).take k)∧Below w2.heap.size w2 wr) (fun _ i _=>n - (intOf i).toNat)
 case atStart=>exact ⟨0,none,0, [],Nat.zero_le _,rfl,rfl,by omega,by simpa using OBs.nil_ _ _,Below.refl _ _⟩
 case round=>
  obtain ⟨k,A2,c2,vs,hk,rfl,rfl,hkc,hobs,hbr⟩:=hrel;have HOBS:=hid hobs;have HBR:=hid hbr;clear hobs hbr;by_cases hlt:k < n
  ·have hlt':(k:Int) < (n:Int):=by omega
   obtain ⟨bb,o,rfl,hbb,hxm,hcells⟩:=(HO.out.below HBR.out).get hlt;obtain ⟨x,hx⟩:∃ x,xs[k]! =x:=⟨_,rfl⟩;rw [hx] at hxm hcells;have hxr:(recsL m d.L)[k]? =some x.r:=by
    rw [← HMAP.out,List.getElem?_map,ZgE (by have:=HXN.out;omega)];rw [← hx,getElem!_pos xs k (by have:=HXN.out;omega)];rfl
   have htk:((recsL m d.L).map putR).take (k+1)=((recsL m d.L).map putR).take k++ [putR x.r]:=by
    have hl:k < ((recsL m d.L).map putR).length:=by rw [List.length_map,← HMAP.out,List.length_map];have:=HXN.out;omega
    rw [ZtS hl];congr 2
    have h3:((recsL m d.L).map putR)[k]? =some (putR x.r):=by rw [List.getElem?_map,hxr];rfl
    rw [ZgE hl] at h3;injection h3
   have hlk:(((recsL m d.L).map putR).take k).length=k:=by
    rw [List.length_take,List.length_map,← HMAP.out,List.length_map];have:=HXN.out;omega
   obtain ⟨r,Ar,nr,cr⟩:=x;have c0:=hcells 0 _ rfl;have c1:=hcells 1 _ rfl;have c2':=hcells 2 _ rfl;have c3:=hcells 3 _ rfl;have c4:=hcells 4 _ rfl;have c5:=hcells 5 _ rfl;have c6:=hcells 6 _ rfl;have c7:=hcells 7 _ rfl;simp only [Nat.add_zero,RD.dv] at c0 c1 c2' c3 c4 c5 c6 c7;have hdat:=(HO.out.below HBR.out).at_ _ hxm;obtain ⟨Ar',cr',hdv,hd1,hd2,hsl⟩:=hdat;unfold RD.dv at hdv;dsimp only at hdv hd1 hsl;injection hdv with e1 e2 e3;rw [← e2] at hsl hd1;rw [← e3] at hd1 hd2;rw [← e1] at hsl;have HSLN:=hid (hsl.mono HBR.out.size);have HTK:=hid htk;have HLK:=hid hlk;clear hcells hxm hx hxr htk hlk hsl e1 e2 e3
   have hb4:Below wr.heap.size wr (wr.alloc (.cells #[.int .i64 r.O,.int .i64 r.B,.int .i64 r.I,.int .i64 r.P.K,.int .i64 r.P.H,.int .i64 r.P.S,.int .u32 (r.S.toNat:Int),.slice Ar nr cr] 73)):=(Below.refl _ _).alloc (ZnR _) _;have HB4:=hid hb4;clear hb4;go_wp2_with fail;generalize wr.alloc (.cells #[.int .i64 r.O,.int .i64 r.B,.int .i64 r.I,.int .i64 r.P.K,.int .i64 r.P.H,.int .i64 r.P.S,.int .u32 (r.S.toNat:Int),.slice Ar nr cr] 73)=w4 at*;refine (Zz20 w4.heap.size r Ar nr cr w4 ((HSLN.out.below HB4.out).mono HB4.out.size) (ZnR _)).mono ?_;rintro e w5 ⟨vp,rfl,hop,hb5⟩;obtain ⟨Ap,cp,rfl,hp1,hp2,_⟩:=Zz0h hop;have hb45:=HB4.out.trans (hb5.mono HB4.out.size)
   have HOBS5:=hid (HOBS.out.below hb45);have HBR5:=hid (HBR.out.trans (hb45.mono HBR.out.size));have HOP:=hid (Zz0b hop (ZnT HBR.out.size HB4.out.size));clear hop hb5 hb45 c0 c1 c2' c3 c4 c5 c6 c7;go_wp2_with (first
    | ((with_reducible show wpList _ _ _ (⟨some 19,_,_,_,_,_⟩::_) _ _);refine wpList_plain rfl (fun K hK=> ?_);refine Zz2s 23 33 (.tmp 18) (by rfl) _ (by rfl) rfl ibs (.slice none 0 0) Tryz.underlying23 hibs hzb0 hzb1 rfl ?_;rintro w6 g6 hg6 hr6 hb6 hz6;refine hK _ _ ?_;clear hK K;subst hg6;have HR6:=hid hr6;have HOBS6:=hid (HOBS5.out.below hb6);have HBR6:=hid (HBR5.out.trans (hb6.mono HBR5.out.size));have HOP6:=hid (OB.below HOP.out hb6);have hg6l:=hr6.lt;clear hr6 hb6 hz6)
    | ((with_reducible show wpList _ _ _ (⟨some 20,_,_,_,_,_⟩::_) _ _);go_must (refine Zz03 rfl (.tmp 16) (.tmp 19) 23 rfl w2.heap.size 33 ibs (.slice none 0 0) 1 24 Tryz.underlying23 hibs hzb0 hzb1 hzb2 rfl (by omega) (.slice A2 k c2) k vs rfl (by have:=HOBS6.out.own;rwa [HLK.out] at this) (w5.heap.size+1) (some ⟨w5.heap.size,0,none⟩) 1 1 [_] rfl (HR6.out.sl (by omega) (ZnR _)) (by intro u hu;simp only [List.mem_singleton] at hu;subst hu;rfl) (k+1) rfl _ rfl (by omega) (by omega) HBR6.out.size ?_);intro A7 c7 w7 ho7 hg7 _))
   have hps:=OBs.push HOBS6.out HOP6.out (by rw [HLK.out];exact ho7) hg7;rw [← HTK.out] at hps;have hb7:=Zz04 HBR6.out HOBS6.out.own hg7 (ZnR _) HBR6.out.size;have hc7:=Zz14 ho7;have HPS:=hid hps;have HB7:=hid hb7;clear hps hb7 ho7 hg7;go_roundw
   case rel=>exact ⟨k+1,A7,c7,_,by omega,rfl,by go_num,hc7,HPS.out,HB7.out⟩
   case measure=>simp [intOf] <;> omega
  ·have hlt':¬ (k:Int) < (n:Int):=by omega
   obtain rfl:k=n:=by omega
   go_wp2_with fail;go_ret
   have ho:=HOBS.out;have hl:((recsL m d.L).map putR).length=k:=by rw [List.length_map,← HMAP.out,List.length_map,HXN.out]
   rw [ZtL (by omega)] at ho;exact ⟨A2,k,c2,vs,rfl,hl.symm,ho.base HB2.out.size,HB2.out.trans (HBR.out.mono HB2.out.size)⟩
theorem Zza7 (G:Nat→Prop) (gr qg:Nat) (d:Dr) (mk:Nat) (m:Mani) (B:Nat) (Ad Ao:Option Addr) (nd cd no co:Nat) (ts:List Value) (w:World) (h:RDrvE G w gr qg d) (hok:DOk mk d) (hm:RM w B m Ad nd cd Ao no co ts) (hB:B≤w.heap.size) (hno:no≤9223372036854775807) (h64:M64 m) (hnm:∀ e∈m.objs,e.name.length≤1048576):
  Calls Tryz.prog 20 #[.pointer (some ⟨gr,0,none⟩),m.val (.slice Ad nd cd) (.slice Ao no co)] w (KeepR m d.L w):=by
 have hb:Below w.heap.size w (w.alloc (.cells #[.int .i64 m.seq,.int .i64 m.next,.int .i64 m.P.K,.int .i64 m.P.H,.int .i64 m.P.S,.int .i64 m.extra,.slice Ad nd cd,.slice Ao no co] 28)):=(Below.refl _ _).alloc (ZnR _) _;have H1:=hid (h.new_ hb);have hx:=Row.new w 28 #[.int .i64 m.seq,.int .i64 m.next,.int .i64 m.P.K,.int .i64 m.P.H,.int .i64 m.P.S,.int .i64 m.extra,.slice Ad nd cd,.slice Ao no co];have HX:=hid hx;have HM:=hid (hm.below (hb.mono hB));have HBW:=hid hb;have hll:=hok.len;have hrm:=hok.room;have hrl:=Zz3h m d.L;have hpl:=Zz18 m
 have HLEN:=hid (show (pagesL m.seq (pack m)++(recsL m d.L).map putR).length≤9223372036854775807∧(pagesL m.seq (pack m)++(recsL m d.L).map putR).length*24≤140737488355328 by rw [List.length_append,List.length_map];omega);obtain ⟨ibs,hibs,hzb0,hzb1,hzb2⟩:=info_parts infoBs;unfold KeepR keepL;obtain ⟨NK,hNK⟩:∃ NK,(pagesL m.seq (pack m)++(recsL m d.L).map putR).length=NK:=⟨_,rfl⟩;have HNK:=hid hNK;have hlen:=HLEN.out;rw [hNK] at hlen ⊢;clear HLEN hNK;clear hb h hm hx hll hrm hrl hpl;unfold Mani.val;go_enter Tryz.func20,Tryz.ntmps20;go_upto_region 1 with fail
 generalize w.alloc (.cells #[.int .i64 m.seq,.int .i64 m.next,.int .i64 m.P.K,.int .i64 m.P.H,.int .i64 m.P.S,.int .i64 m.extra,.slice Ad nd cd,.slice Ao no co] 28)=w1 at*;refine Org.begin [] (fun w'=>Below w1.heap.size w1 w') [0,2,3,1,4,5,6] (by kernel_rfl) (Zz01 (Below.refl _ _) 1) (fun hS=> ?_);(refine Org.yA (v:= ?_) (SM.of hS) ?_ ?_;rotate_left;(focus (intro w hSw;(try dsimp only at hSw);have hr:=HX.out.below hSw HX.out.lt;obtain ⟨x0,x1,x2,x3,x4,x5,x6,x7⟩:=Row.c8 hr;refine Pure.val ?_;go_simp;(try with_reducible rfl);done));try simp only [aS,aN,aA,a0,a1]);(refine Org.yV (SM.of hS) ?_;try simp only [aS,aN,aA,a0,a1])
 (refine Org.yA (v:= ?_) (SM.of hS) ?_ ?_;rotate_left;(focus (intro w hSw;(try dsimp only at hSw);have hr:=HX.out.below hSw HX.out.lt;obtain ⟨x0,x1,x2,x3,x4,x5,x6,x7⟩:=Row.c8 hr;refine Pure.val ?_;go_simp;(try with_reducible rfl);done));try simp only [aS,aN,aA,a0,a1]);refine Org.gA fun K hK=> ?_
 go_simp;go_at_call 32;refine (Zz1g m B Ad Ao nd cd no co ts _ (HM.out.below (hS.mono (ZnT hB HBW.out.size))) (ZnT (ZnT hB HBW.out.size) hS.size) h64 hnm).mono ?_;rintro e wp ⟨Ap,cp,vsp,rfl,hop,hbp⟩;have HOP:=hid (hop.base hS.size);have HBP:=hid hbp;clear hop hbp;go_wp2_with fail;refine hK.out _ _ (hS.trans (HBP.out.mono hS.size)) (fun hS2=> ?_);clear hK K hS;have hS:=hS2;clear hS2;try simp only [aS,aN,aA,a0,a1]
 refine Org.gA fun K hK=> ?_
 go_simp;go_at_call 60;refine (Zz9y G gr qg d mk m B Ad Ao nd cd no co ts _ (H1.out.new_ (hS.mono (ZnR _))) hok (HM.out.below (hS.mono (ZnT hB HBW.out.size))) (ZnT (ZnT hB HBW.out.size) hS.size) hno).mono ?_;rintro e wc ⟨Ac,n,cc,vsc,rfl,hn,hoc,hbc⟩;have HN:=hid hn.symm;clear hn;have HOC:=hid (hoc.base hS.size);have HBC:=hid hbc;clear hoc hbc;go_wp2_with fail;refine hK.out _ _ (hS.trans (HBC.out.mono hS.size)) (fun hS2=> ?_);clear hK K hS;have hS:=hS2;clear hS2;try simp only [aS,aN,aA,a0,a1]
 refine Org.gA fun K hK=> ?_
 have HP:=hid (by first | exact HOP.out.below HBC.out | exact HOP.out:OBs w1.heap.size _ (.slice Ap (pagesL m.seq (pack m)).length cp) vsp (pagesL m.seq (pack m)));have HC:=hid (by first | exact HOC.out.below HBP.out | exact HOC.out:OBs w1.heap.size _ (.slice Ac n cc) vsc ((recsL m d.L).map putR));have howc:=HC.out.own;rw [HN.out] at howc;refine Zz0k (.tmp 6) (.tmp 9) 23 rfl w1.heap.size 33 ibs (.slice none 0 0) 1 24 Tryz.underlying23 hibs hzb0 hzb1 hzb2 rfl (by omega) (.slice Ap (pagesL m.seq (pack m)).length cp) (pagesL m.seq (pack m)).length vsp rfl HP.out.own _ Ac n cc vsc rfl (Sl.own howc) (Zzb1 HC.out) NK (by rw [← HNK.out,List.length_append,HN.out]) _ rfl hlen.1 hlen.2 hS.size ?_
 rintro A7 c7 w7 ho7 hg7 _;have hps:=OBs.app HP.out HC.out ho7 hg7;have hb7:=Zz04 hS HP.out.own hg7 (ZnR _) hS.size;have HPS:=hid hps;have HB7:=hid hb7;clear hps hb7 ho7 hg7 howc;refine hK.out _ _ HB7.out (fun hS2=> ?_);clear hK K hS;have hS:=hS2;clear hS2;try simp only [aS,aN,aA,a0,a1]
 (refine Org.yV (SM.of hS) ?_;try simp only [aS,aN,aA,a0,a1]);refine Org.done (by kernel_rfl) ?_;go_wp2_with fail;go_ret
 exact ⟨A7,c7,_,rfl,HPS.out.base HBW.out.size,HBW.out.trans (HB7.out.mono HBW.out.size)⟩
theorem OMs.read {base:Nat} {w:World} {A:Option Addr} {n c:Nat} {xs:List MD} (h:OMs base w (.slice A n c) xs) (hn:xs.length=n):RMs w w.heap.size A n xs:=by
 subst hn;exact ⟨Sl.own h.own,rfl,fun x hx=>(h.at_ x hx).read⟩
theorem Zzgt {xs ys:List Mani} {k:Nat} {x y:Mani} {b:Bool} (hx:xs[k]? =some x) (hy:ys[k]? =some y) (ht:xs.take k=ys.take k) (hb:decide (x=y)=b):(b=true→xs.take (k+1)=ys.take (k+1))∧(b=false→¬ xs=ys):=by
 constructor
 ·intro e
  have e2:x=y:=of_decide_eq_true (hb.trans e);rw [List.take_add_one,List.take_add_one,hx,hy,ht,e2]
 ·intro e e3
  have e2:¬ x=y:=of_decide_eq_false (hb.trans e);rw [e3,hy] at hx;injection hx with hx;exact e2 hx.symm
theorem Zzds (B:Nat) (A A':Option Addr) (n c n' c':Nat) (xs ys:List MD) (b:Bool) (w:World) (h:RMs w B A n xs) (h':RMs w B A' n' ys) (hB:B≤w.heap.size) (hn:n≤1048576) (hn':n'≤1048576) (hb:b=true↔xs.map MD.m=ys.map MD.m):
  Calls Tryz.prog 21 #[.slice A n c,.slice A' n' c'] w fun e w'=>e= .returned (.bool b)∧Below w.heap.size w w':=by
 have HH:=hid h;have HH':=hid h';have HBI:=hid hb;have hl:=h.len;have hl':=h'.len;by_cases hnn:n=n'
 ·subst hnn
  go_enter Tryz.func21,Tryz.ntmps21;go_wp2_with fail;go_loopw [5,13] (fun _ qv wr4=>∃ (k:Nat),k≤n∧qv= .int .i64 (k:Int)∧Hid ((xs.map MD.m).take k=(ys.map MD.m).take k)∧Below w.heap.size w wr4) (fun _ qv _=>n - (intOf qv).toNat)
  case atStart=>exact ⟨0,Nat.zero_le _,rfl,hid rfl,Below.refl _ _⟩
  case round=>
   obtain ⟨wf,hwf⟩:∃ x,x=wr:=⟨_,rfl⟩;subst hwf;obtain ⟨k,hk,rfl,HTK,hbw⟩:=hrel;have HBWF:=hid hbw;have hbB:=hbw.mono hB;have HX:=hid (((HH.out.below hbB).mono hB).mono hbw.size);have HY:=hid (((HH'.out.below hbB).mono hB).mono hbw.size);clear hbw hbB;by_cases hkn:k < n
   ·have hkn':(k:Int) < (n:Int):=by omega
    obtain ⟨bx,ox,rfl,hbx,hxm,hxg,hcx⟩:=HX.out.get hkn;obtain ⟨by_,oy,rfl,hby,hym,hyg,hcy⟩:=HY.out.get hkn;obtain ⟨x,hx⟩:∃ x,xs[k]! =x:=⟨_,rfl⟩;obtain ⟨y,hy⟩:∃ y,ys[k]! =y:=⟨_,rfl⟩;rw [hx] at hxm hxg hcx;rw [hy] at hym hyg hcy;have HRX:=hid (HX.out.at_ x hxm);have HRY:=hid (HY.out.at_ y hym);have HBX:=hid hbx;have HBY:=hid hby;have PX0:=hid (hcx 0 _ rfl);have PY0:=hid (hcy 0 _ rfl);have PX1:=hid (hcx 1 _ rfl);have PY1:=hid (hcy 1 _ rfl);have PX2:=hid (hcx 2 _ rfl);have PY2:=hid (hcy 2 _ rfl);have PX3:=hid (hcx 3 _ rfl);have PY3:=hid (hcy 3 _ rfl);have PX4:=hid (hcx 4 _ rfl);have PY4:=hid (hcy 4 _ rfl);have PX5:=hid (hcx 5 _ rfl);have PY5:=hid (hcy 5 _ rfl);have PX6:=hid (hcx 6 _ rfl)
    have PY6:=hid (hcy 6 _ rfl);have PX7:=hid (hcx 7 _ rfl);have PY7:=hid (hcy 7 _ rfl);simp only [Nat.add_zero] at PX0 PX1 PX2 PX3 PX4 PX5 PX6 PX7 PY0 PY1 PY2 PY3 PY4 PY5 PY6 PY7;obtain ⟨b1,hb1⟩:∃ q,decide (x.m=y.m)=q:=⟨_,rfl⟩;have HB1:=hid hb1;have hst:=Zzgt (xs:=xs.map MD.m) (ys:=ys.map MD.m) (k:=k) (x:=x.m) (y:=y.m) (by rw [List.getElem?_map,hxg];rfl) (by rw [List.getElem?_map,hyg];rfl) HTK.out hb1;have HST:=hid hst;clear hx hy hxm hym hxg hyg hcx hcy hbx hby hb1 hst;go_upto_region 6 with fail;refine Org.begin [] (fun w'=>Below wf.heap.size wf w') [0,1,2,3,4,5,6,7,8,9] (by kernel_rfl) (Zz01 (Below.refl _ _) 1) (fun hS=> ?_)
    iterate 3 (refine Org.yV (SM.of hS) ?_;try simp only [aS,aN,aA,a0,a1])
    (refine Org.yA (v:= ?_) (SM.of hS) ?_ ?_;rotate_left;(focus (intro w hSw;(try dsimp only at hSw);have y0:=(hSw.cell (p:=⟨bx,ox+k*8,none⟩) HBX.out).trans PX0.out;have y1:=(hSw.cell (p:=⟨bx,ox+k*8+1,none⟩) HBX.out).trans PX1.out;have y2:=(hSw.cell (p:=⟨bx,ox+k*8+2,none⟩) HBX.out).trans PX2.out;have y3:=(hSw.cell (p:=⟨bx,ox+k*8+3,none⟩) HBX.out).trans PX3.out;have y4:=(hSw.cell (p:=⟨bx,ox+k*8+4,none⟩) HBX.out).trans PX4.out;have y5:=(hSw.cell (p:=⟨bx,ox+k*8+5,none⟩) HBX.out).trans PX5.out;have y6:=(hSw.cell (p:=⟨bx,ox+k*8+6,none⟩) HBX.out).trans PX6.out;have y7:=(hSw.cell (p:=⟨bx,ox+k*8+7,none⟩) HBX.out).trans PX7.out;refine Pure.val ?_;go_simp;(try with_reducible rfl);done));try simp only [aS,aN,aA,a0,a1])
    iterate 3 (refine Org.yV (SM.of hS) ?_;try simp only [aS,aN,aA,a0,a1])
    (refine Org.yA (v:= ?_) (SM.of hS) ?_ ?_;rotate_left;(focus (intro w hSw;(try dsimp only at hSw);have z0:=(hSw.cell (p:=⟨by_,oy+k*8,none⟩) HBY.out).trans PY0.out;have z1:=(hSw.cell (p:=⟨by_,oy+k*8+1,none⟩) HBY.out).trans PY1.out;have z2:=(hSw.cell (p:=⟨by_,oy+k*8+2,none⟩) HBY.out).trans PY2.out;have z3:=(hSw.cell (p:=⟨by_,oy+k*8+3,none⟩) HBY.out).trans PY3.out;have z4:=(hSw.cell (p:=⟨by_,oy+k*8+4,none⟩) HBY.out).trans PY4.out;have z5:=(hSw.cell (p:=⟨by_,oy+k*8+5,none⟩) HBY.out).trans PY5.out;have z6:=(hSw.cell (p:=⟨by_,oy+k*8+6,none⟩) HBY.out).trans PY6.out;have z7:=(hSw.cell (p:=⟨by_,oy+k*8+7,none⟩) HBY.out).trans PY7.out;refine Pure.val ?_;go_simp;(try with_reducible rfl);done));try simp only [aS,aN,aA,a0,a1])
    refine Org.gA fun K hK=> ?_
    go_simp;go_at_call 61;refine (Zz4c x.m y.m wf.heap.size x.Ad x.Ao y.Ad y.Ao x.nd x.cd x.no x.co y.nd y.cd y.no y.co x.ts y.ts b1 _ (HRX.out.below hS) (HRY.out.below hS) hS.size HB1.out).mono ?_;rintro e wz ⟨rfl,hbz⟩;have hS3:=hS.trans (hbz.mono hS.size);clear hbz;go_wp2_with fail;refine hK.out _ _ hS3 (fun hS2=> ?_);clear hS3;clear hK K hS;have hS:=hS2;clear hS2;try simp only [aS,aN,aA,a0,a1]
    (refine Org.yV (SM.of hS) ?_;try simp only [aS,aN,aA,a0,a1]);refine Org.done (by kernel_rfl) ?_;have HSE:=hid hS;clear hS;cases b1 with
    | true=>
     go_wp2_with fail;go_roundw
     case rel=>exact ⟨k+1,by omega,by go_num,hid (HST.out.1 rfl),HBWF.out.trans (HSE.out.mono HBWF.out.size)⟩
     case measure=>simp [intOf];omega
    | false=>
     have hbf:b=false:=by
      cases b with
      | false=>rfl
      | true=>exact absurd (HBI.out.1 rfl) (HST.out.2 rfl)
     subst hbf;go_wp2_with fail;go_ret
     exact ⟨rfl,HBWF.out.trans (HSE.out.mono HBWF.out.size)⟩
   ·have hkn':¬ (k:Int) < (n:Int):=by omega
    obtain rfl:k=n:=by omega
    have hbt:b=true:=HBI.out.2 (by
     have:=HTK.out
     rwa [ZtL (by rw [List.length_map,hl];exact ZnR _),ZtL (by rw [List.length_map,hl'];exact ZnR _)] at this)
    subst hbt;go_wp2_with fail;go_ret
    exact ⟨rfl,HBWF.out⟩
 ·have hni:¬ (n:Int)=(n':Int):=by omega
  have hbf:b=false:=by
   cases b with
   | false=>rfl
   | true=>
    have:=congrArg List.length (HBI.out.1 rfl)
    rw [List.length_map,List.length_map,hl,hl'] at this;exact absurd this hnn
  subst hbf;go_enter Tryz.func21,Tryz.ntmps21;go_wp2_with fail;go_ret
  exact ⟨rfl,Below.refl _ _⟩
theorem Zz8j {m:Mani} {l:List (List Byte)} {xs:List RD} (h:xs.map RD.r=recsL m l):∀ x∈xs,x.r.D.length≤1048576:=by
 intro x hx;have h1:x.r∈recsL m l:=by rw [← h];exact List.mem_map_of_mem hx
 obtain ⟨⟨c,_,hc⟩,_⟩:=Zzeo h1;have h2:=Zz2n (Zzcu hc).1;rw [Zz2w] at h2;omega
end Go.Proofs.YtnknjeipfjdjoaaGreatDoor
namespace Wells
open Go Go.RowKit
theorem Zzev (l:List Mani):(dedup l).length≤l.length:=by
 induction l using Zz39 with
 | h0=>exact ZnR _
 | h1 l y ih=>
  rw [Zz1p];split
  ·simp;omega
  ·simp;omega
theorem Zze4 (P:List (List Byte)):(joinL P).length≤P.length:=by
 unfold joinL;rw [(Zz68 _).length_eq];have h1:=Zzev ((pagesOf P).filterMap (told (pagesOf P)));have h2:=List.length_filterMap_le (told (pagesOf P)) (pagesOf P);have h3:(pagesOf P).length≤P.length:=List.length_filterMap_le _ _;omega
end Wells
namespace Go.Proofs.YtnknjeipfjdjoaaGreatDoor
open Go.RowKit Wells
def MB (B0:Nat) (w:World) (v:Value) (l:List Byte):Prop:=RB w B0 v l∨TB B0 w v l
theorem MB.read {B0:Nat} {w:World} {v:Value} {l:List Byte} (h:MB B0 w v l) (hB:B0≤w.heap.size):RB w w.heap.size v l:=
 h.elim (fun h=>h.mono hB) (fun h=>h.read)
theorem MB.below {B0:Nat} {w w':World} {v:Value} {l:List Byte} (h:MB B0 w v l) (hb:Below w.heap.size w w') (hB:B0≤w.heap.size):MB B0 w' v l:=
 h.elim (fun h=> .inl (h.keep (hb.mono hB))) (fun h=> .inr (h.below hb))
theorem MB.grown {B0 n:Nat} {w w':World} {v u:Value} {l:List Byte} {xs:List Value} (h:MB B0 w v l) (ho:w.ownsRow B0 33 1 u n xs) (hg:w.grownBy w' u.ownBlock) (hB:B0≤w.heap.size):MB B0 w' v l:=
 h.elim (fun h=> .inl (h.keep (Zz04 (Below.refl _ _) ho hg (ZnR _) hB))) (fun h=> .inr (h.grown ho hg (by decide)))
theorem OB.tb {base B0:Nat} {w:World} {v:Value} {l:List Byte} (h:OB base w v l) (hB:B0≤base):TB B0 w v l:=by
 obtain ⟨A,c,rfl,h1,h2,_⟩:=h.read;refine ⟨A,c,rfl,h1,h2,fun h0=> ?_⟩;obtain ⟨g,cur,rfl,hg,hr,ht⟩:=Zzd7 h h0;exact ⟨g,0,cur,rfl,by omega,hr,by simpa using ht⟩
structure MBs (B0:Nat) (w:World) (v:Value) (vs:List Value) (ls:List (List Byte)):Prop where
 own:w.ownsRow B0 33 1 v ls.length vs
 at_:∀ i,i < ls.length→MB B0 w (vs.getD i undef) (ls.getD i [])
theorem MBs.of {base B0:Nat} {w:World} {v:Value} {vs:List Value} {ls:List (List Byte)} (h:OBs base w v vs ls) (hB:B0≤base):MBs B0 w v vs ls:=
 ⟨Zz0b h.own hB,fun i hi=> .inr ((h.at_ i hi).tb hB)⟩
theorem MBs.below {B0:Nat} {w w':World} {v:Value} {vs:List Value} {ls:List (List Byte)} (h:MBs B0 w v vs ls) (hb:Below w.heap.size w w') (hB:B0≤w.heap.size):MBs B0 w' v vs ls:=
 ⟨h.own.kept (Zz02 hb none) (by cases v.ownBlock <;> simp),fun i hi=>(h.at_ i hi).below hb hB⟩
theorem MBs.read {B0:Nat} {w:World} {A:Option Addr} {n c:Nat} {vs:List Value} {ls:List (List Byte)} (h:MBs B0 w (.slice A n c) vs ls) (hn:ls.length=n) (hB:B0≤w.heap.size):RBs w w.heap.size A n vs ls:=by
 subst hn;exact ⟨Sl.own h.own,rfl,fun i hi=>(h.at_ i hi).read hB⟩
theorem MBs.app {B0 N:Nat} {w w':World} {v v':Value} {vs vs2:List Value} {ls ls2:List (List Byte)} (h:MBs B0 w v vs ls) (h2:∀ i,i < ls2.length→MB B0 w (vs2.getD i undef) (ls2.getD i []))
  (ho:w'.ownsRow B0 33 1 v' N (vs++vs2)) (hg:w.grownBy w' v.ownBlock) (hB:B0≤w.heap.size) (hN:N=(ls++ls2).length):MBs B0 w' v' (vs++vs2) (ls++ls2):=by
 have hlen:vs.length=ls.length:=by have:=h.own.1;omega
 subst hN;refine ⟨ho,fun i hi=> ?_⟩;rw [List.length_append] at hi;by_cases hlt:i < ls.length
 ·have:=(h.at_ i hlt).grown h.own hg hB
  simp only [ZgD] at this ⊢;rwa [List.getElem?_append_left (by omega),List.getElem?_append_left hlt]
 ·have:=(h2 (i - ls.length) (by omega)).grown h.own hg hB
  simp only [ZgD] at this ⊢;rwa [List.getElem?_append_right (by omega),List.getElem?_append_right (by omega),hlen]
theorem Zz87 {B n g:Nat} {w w':World} {cs xs:List Value} {v:Value} (h:Row w g 28 cs) (ho:w.ownsRow B 33 1 v n xs) (hg:w.grownBy w' v.ownBlock):Row w' g 28 cs:=Zz1i h hg (Zz1y ho) (by decide)
end Go.Proofs.YtnknjeipfjdjoaaGreatDoor
namespace Wells
open Go Go.RowKit
end Wells
namespace Go.Proofs.YtnknjeipfjdjoaaGreatDoor
open Go.RowKit Wells
theorem fit255 (m:Mani) (_:m.may=true):pageN (pack m)≤255:=by
 have:=Zz18 m
 rw [Zz0n] at this;omega
structure SJ (w2:World) (gy gz:Nat) (cy cz:List Value) (w:World):Prop where
 y:Row w gy 28 cy
 z:Row w gz 28 cz
 b:Below w2.heap.size w2 w
theorem SJ.below {w2 w w':World} {gy gz:Nat} {cy cz:List Value} (h:SJ w2 gy gz cy cz w) (hb:Below w.heap.size w w'):SJ w2 gy gz cy cz w':=⟨h.y.below hb h.y.lt,h.z.below hb h.z.lt,h.b.trans (hb.mono h.b.size)⟩
theorem SJ.grown {w2 w w':World} {gy gz n:Nat} {cy cz xs:List Value} {v:Value} (h:SJ w2 gy gz cy cz w) (ho:w.ownsRow w2.heap.size 33 1 v n xs) (hg:w.grownBy w' v.ownBlock):SJ w2 gy gz cy cz w':=⟨Zz87 h.y ho hg,Zz87 h.z ho hg,Zz04 h.b ho hg (ZnR _) h.b.size⟩
end Go.Proofs.YtnknjeipfjdjoaaGreatDoor
