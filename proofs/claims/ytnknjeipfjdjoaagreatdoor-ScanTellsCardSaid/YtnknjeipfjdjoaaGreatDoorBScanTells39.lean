/- RefRecs -/
import Derived.BigGuardPart
import Derived.Deep.DeepCutAuto
import Derived.Test.YtnknjeipfjdjoaaGreatDoorBScanTells26
import Derived.Test.YtnknjeipfjdjoaaGreatDoorBScanTells36
set_option maxHeartbeats 8000000
set_option maxRecDepth 20000
set_option linter.unusedSimpArgs false
set_option linter.unusedVariables false
namespace Go.Proofs.YtnknjeipfjdjoaaGreatDoor
open Go.RowKit Wells Go.Sort Go.Lib
theorem Zz5p {w:World} {g:Nat} {t:TypeId} {cs:List Value} {base:Nat} (h:Row w g t cs) (hl:cs.length=8) (hb:base≤g):w.ownsRow base t 8 (.slice (some ⟨g,0,none⟩) 1 1) 1 cs:=
 ⟨by omega,.inr ⟨g,1,cs.toArray,rfl,hb,h,ZnR _,by unfold maxLen;omega,by simp [hl],by simp;exact ZtL (by omega)⟩⟩
theorem Zz65 (x:RD) (xs:List RD):∀ v∈encR x++xs.flatMap encR,v.oneCell'=true:=by
 intro v hv;rcases List.mem_append.1 hv with h | h
 ·exact Zz2j x v h
 ·exact Zz5o xs v h
theorem RRs.insert {w:World} {nx:Nat} {Ax:Option Addr} {xs:List RD} (h:RRs w w.heap.size Ax nx xs) (x:RD) (hx:RB w w.heap.size x.dv x.r.D) {q:Nat} (hq:q≤nx) {base c8:Nat} {A8:Option Addr}
  (ho:w.ownsRow base 73 8 (.slice A8 (nx+1) c8) (nx+1) ((xs.take q).flatMap encR++(encR x++(xs.drop q).flatMap encR))):RRs w w.heap.size A8 (nx+1) (xs.take q++x::xs.drop q):=by
 have hl:=h.len;refine ⟨?_,by simp;omega,fun y hy=> ?_⟩
 ·have:=Sl.own ho
  rwa [List.flatMap_append,List.flatMap_cons]
 ·rcases List.mem_append.1 hy with h1 | h1
  ·exact h.at_ _ (List.mem_of_mem_take h1)
  ·rcases List.mem_cons.1 h1 with rfl | h1
   ·exact hx
   ·exact h.at_ _ (List.mem_of_mem_drop h1)
def RefRecsR (w:World) (rs:List Rec) (e:Ending) (w':World):Prop:=
 ∃ (A:Option Addr) (n c:Nat) (xs:List RD),e= .returned (.slice A n c)∧n=rs.length∧(n≤c∧c≤9223372036854775807)∧RRs w' w'.heap.size A n xs∧xs.map RD.r=rs∧Below w.heap.size w w'
theorem Zz4o (G:Nat→Prop) (gr qg:Nat) (d:Dr) (mk:Nat) (m:Mani) (B:Nat) (Ad Ao:Option Addr) (nd cd no co:Nat) (ts:List Value) (w:World) (h:RDrvE G w gr qg d) (hok:DOk mk d) (hm:RM w B m Ad nd cd Ao no co ts) (hB:B≤w.heap.size) (hno:no≤9223372036854775807):
  Calls Tryz.prog 15 #[.pointer (some ⟨gr,0,none⟩),m.val (.slice Ad nd cd) (.slice Ao no co)] w (RefRecsR w (recsL m d.L)):=by
 have hb:Below w.heap.size w (w.alloc (.cells #[.int .i64 m.seq,.int .i64 m.next,.int .i64 m.P.K,.int .i64 m.P.H,.int .i64 m.P.S,.int .i64 m.extra,.slice Ad nd cd,.slice Ao no co] 28)):=(Below.refl _ _).alloc (ZnR _) _;have hx:=Row.new w 28 #[.int .i64 m.seq,.int .i64 m.next,.int .i64 m.P.K,.int .i64 m.P.H,.int .i64 m.P.S,.int .i64 m.extra,.slice Ad nd cd,.slice Ao no co];have HX:=hid hx;have HM:=hid (hm.below (hb.mono hB));have HBW:=hid hb;have hll:=hok.len;have hrm:=hok.room;have HC:=hid hok.cells;obtain ⟨lv,lvs,bv,bvs,hr⟩:=h.new_ hb;obtain ⟨Al,cl,rfl,hlc,hlc2⟩:=hr.l.own.form;obtain ⟨nl,hn⟩:∃ n,d.L.length=n:=⟨_,rfl⟩;have hrd:=hr.l.own.read rfl;rw [hn] at hr hlc hrd hll
 have c2:(w.alloc (.cells #[.int .i64 m.seq,.int .i64 m.next,.int .i64 m.P.K,.int .i64 m.P.H,.int .i64 m.P.S,.int .i64 m.extra,.slice Ad nd cd,.slice Ao no co] 28)).cell? ⟨gr,2,none⟩=some (.slice Al nl cl):=hr.row.cell 2;have HRD:=hid hrd;have HN:=hid hn;obtain ⟨ir,hir,hzr0,hzr1,hzr2⟩:=info_parts infoRecS;clear hb h hm hx hr hrd hn;unfold Mani.val;go_enter Tryz.func15,Tryz.ntmps15;go_wp2_with fail;generalize w.alloc (.cells #[.int .i64 m.seq,.int .i64 m.next,.int .i64 m.P.K,.int .i64 m.P.H,.int .i64 m.P.S,.int .i64 m.extra,.slice Ad nd cd,.slice Ao no co] 28)=w1 at*
 go_loopw [5,16] (fun ov iv wr=>∃ (k nx cx:Nat) (Ax:Option Addr) (xs:List RD),k≤nl∧nx≤k∧(nx≤cx∧cx≤9223372036854775807)∧ov= .slice Ax nx cx∧iv= .int .i64 (k:Int)∧RRs wr wr.heap.size Ax nx xs∧Hid (xs.map RD.r=recsL m (d.L.take k))∧Below w1.heap.size w1 wr) (fun _ iv _=>nl - (intOf iv).toNat)
 case atStart=>exact ⟨0,0,0,none, [],Nat.zero_le _,ZnR _,by omega,rfl,rfl,RRs.nil_ _ _,by rfl,Below.refl _ _⟩
 case round=>
  clear c2;obtain ⟨k,nx,cx,Ax,xs,hk,hnk,hcx,rfl,rfl,hxs,HF,hbr⟩:=hrel;have HXSR:=hid hxs;have HBR:=hid hbr;clear hxs hbr;by_cases hlt:k < nl
  ·have hlt':(k:Int) < (nl:Int):=by omega
   obtain ⟨bb0,o0,A',c',rfl,hbb0,hcell,hcc1,hcc2,hsl⟩:=(HRD.out.below HBR.out).get hlt;obtain ⟨cc,hcc⟩:∃ cc,d.L.getD k []=cc:=⟨_,rfl⟩;rw [hcc] at hcell hsl hcc1;have hkl:k < d.L.length:=by rw [HN.out];exact hlt
   have hc64:cc.length=64:=by
    rw [← hcc,ZgD,ZgE hkl];exact HC.out _ (List.getElem_mem _)
   have htk:d.L.take (k+1)=d.L.take k++ [cc]:=by
    rw [ZtS hkl,← hcc,ZgD,ZgE hkl];rfl
   rw [hc64] at hcell hsl hcc1;have HSL:=hid hsl;have HTK:=hid htk;clear hsl htk hcc hc64 hkl;go_wp2_with fail;refine (Zz5c w1.heap.size A' cc 64 c' wr HSL.out HBR.out.size (by omega) hcc1 hcc2).mono ?_;rintro e w3 ⟨dv,rfl,hod,hb3⟩;obtain ⟨Ar,cr,rfl,hr1,hr2,hrs⟩:=hod;obtain ⟨TT,hT⟩:∃ TT,takeR cc=TT:=⟨_,rfl⟩;rw [hT] at hr1 hrs ⊢;have HXS3:=hid (HXSR.out.up hb3);have HB3:=hid (HBR.out.trans (hb3.mono HBR.out.size));have HT:=hid hT;clear hT hb3;cases TT with
   | none=>
    clear hrs;simp only [Option.getD_none,Option.isSome_none,Rec.val,Rec.zero];go_wp2_with fail;have hcn:=Zzb9 (m:=m) (l:=d.L.take k) HT.out;rw [← HTK.out] at hcn;have HCN:=hid hcn;clear hcn;go_roundw
    case rel=>exact ⟨k+1,nx,cx,Ax,xs,by omega,by omega,hcx,rfl,by go_num,HXS3.out.up ((Below.refl _ _).alloc (ZnR _) _),by rw [HCN.out];exact HF.out,HB3.out.alloc HB3.out.size _⟩
    case measure=>simp [intOf] <;> omega
   | some r=>
    simp only [Option.getD_some] at hrs hr1;simp only [Option.getD_some,Option.isSome_some,Rec.val];obtain ⟨nr,hnr⟩:∃ nr,r.D.length=nr:=⟨_,rfl⟩;rw [hnr] at hrs hr1 ⊢;have HOD:=hid hrs;have HNR:=hid hnr;have hrr4:=Row.new w3 73 #[.int .i64 r.O,.int .i64 r.B,.int .i64 r.I,.int .i64 r.P.K,.int .i64 r.P.H,.int .i64 r.P.S,.int .u32 (r.S.toNat:Int),.slice Ar nr cr];have hb4:Below w3.heap.size w3 (w3.alloc (.cells #[.int .i64 r.O,.int .i64 r.B,.int .i64 r.I,.int .i64 r.P.K,.int .i64 r.P.H,.int .i64 r.P.S,.int .u32 (r.S.toNat:Int),.slice Ar nr cr] 73)):=(Below.refl _ _).alloc (ZnR _) _;obtain ⟨g4,hg4⟩:∃ g4,w3.heap.size=g4:=⟨_,rfl⟩;rw [hg4] at hrr4;obtain ⟨b,hbb⟩:∃ b,countsM m r=b:=⟨_,rfl⟩
    have HBB:=hid hbb;have HG4:=hid hg4;have HB4:=hid (HB3.out.trans (hb4.mono HB3.out.size));have HXS4:=hid (HXS3.out.up hb4);have HOD4:=hid ((HOD.out.below hb4).mono hb4.size);have HR4:=hid hrr4;have hnk2:nx≤512:=by omega
    clear hrs hnr hb4 hbb hg4 hrr4;go_upto_region 6 with fail;try rw [HG4.out]
    generalize w3.alloc (.cells #[.int .i64 r.O,.int .i64 r.B,.int .i64 r.I,.int .i64 r.P.K,.int .i64 r.P.H,.int .i64 r.P.S,.int .u32 (r.S.toNat:Int),.slice Ar nr cr] 73)=w4 at*;have hr:=HX.out.below HB4.out HX.out.lt;obtain ⟨x0,x1,x2,x3,x4,x5,x6,x7⟩:=Row.c8 hr;clear hr;have hr:=HR4.out;obtain ⟨c0,c1,c2,c3,c4,c5,c6,c7⟩:=Row.c8 hr;clear hr;go_wp2_with fail;refine (Zz6p m r B Ad Ao Ar nd cd no co nr cr ts b w4 (HM.out.below (HB4.out.mono (ZnT hB HBW.out.size))) (ZnT (ZnT hB HBW.out.size) HB4.out.size) HNR.out hno HBB.out).mono ?_;rintro e w5 ⟨rfl,hb5⟩;have HR5:=hid (HR4.out.below hb5 HR4.out.lt);have HXS:=hid (HXS4.out.up hb5);have HOD5:=hid ((HOD4.out.below hb5).mono hb5.size)
    have HB5:=hid (HB4.out.trans (hb5.mono HB4.out.size));have hcn:=Zzd1 (m:=m) (l:=d.L.take k) HT.out;rw [← HTK.out,HBB.out] at hcn;have HCN:=hid hcn;clear hcn hb5 x0 x1 x2 x3 x4 x5 x6 x7 c0 c1 c2 c3 c4 c5 c6 c7;cases b with
    | false=>
     go_wp2_with fail;go_roundw
     case rel=>exact ⟨k+1,nx,cx,Ax,xs,by omega,by omega,hcx,rfl,by go_num,HXS.out,by have:=HCN.out;simp only [Bool.false_eq_true,↓reduceIte] at this;rw [this];exact HF.out,HB5.out⟩
     case measure=>simp [intOf] <;> omega
    | true=>
     have hcn2:=HCN.out;simp only [if_true] at hcn2;have HIN:=hid hcn2;have hlx:(recsL m (d.L.take k)).length=nx:=by rw [← HF.out,List.length_map,HXS.out.len]
     have HLX:=hid hlx;have HSZ:=hid HR5.out.lt;have HEND:=hid (show ∀ (q:Nat),q≤nx→(∀ i (h:i < (recsL m (d.L.take k)).length),q≤i→ltR r (recsL m (d.L.take k))[i]=true)→(∀ (h:q - 1 < (recsL m (d.L.take k)).length),0 < q→ltR r (recsL m (d.L.take k))[q - 1]=false)→recsL m (d.L.take (k+1))=if q=0∨(∃ h:q - 1 < (recsL m (d.L.take k)).length,ltR (recsL m (d.L.take k))[q - 1] r=true) then (recsL m (d.L.take k)).take q++r::(recsL m (d.L.take k)).drop q else recsL m (d.L.take k) from fun q h1 h2 h3=>by rw [HIN.out];exact Zzfm ltR_ord r _ q (recsL_rise m _) (by rw [HLX.out];exact h1) h2 h3);clear hcn2 hlx;go_wp2_with fail
     go_loopw [10] (fun av wr2=>∃ (q:Nat) (z:Int),q≤nx∧av= .int .i64 z∧z=(q:Int)∧Hid (∀ i (h:i < (recsL m (d.L.take k)).length),q≤i→ltR r (recsL m (d.L.take k))[i]=true)∧Below w5.heap.size w5 wr2) (fun av _=>(intOf av).toNat)
     case atStart=>exact ⟨nx,nx,ZnR _,rfl,rfl,fun i h hq=>by rw [HLX.out] at h;omega,Below.refl _ _⟩
     case round=>
      obtain ⟨q,z,hq,rfl,hz,HALL,hbs⟩:=hrel;obtain ⟨ws,hws⟩:∃ ws,ws=wr:=⟨_,rfl⟩;rw [← hws] at hbs ⊢;clear hws;have HBS:=hid hbs;clear hbs;by_cases hq0:q=0
      ·subst hq0
       obtain rfl:z=0:=by rw [hz];rfl
       clear hz;go_upto_region 8 with fail;refine Org.begin [] (fun w'=>Below ws.heap.size ws w') [0,1,2,3,4,5,6,7,8,9,10] (by kernel_rfl) (Zz01 (Below.refl _ _) 1) (fun hS=> ?_);iterate 3 (refine Org.yV (SM.of hS) ?_;try simp only [aS,aN,aA,a0,a1])
       iterate 7 (refine Org.nA (SM.of hS) ?_;try simp only [aS,aN,aA,a0,a1])
       (refine Org.yV (SM.of hS) ?_;try simp only [aS,aN,aA,a0,a1]);refine Org.done (by kernel_rfl) ?_;have HS1:=hid hS;clear hS;go_upto_region 10 with fail;refine Org.begin [] (fun w'=>Below ws.heap.size ws w') [0,1,2,3,4,5,6,7,8,9,10] (by kernel_rfl) (Zz01 HS1.out 1) (fun hS=> ?_);iterate 3 (refine Org.yV (SM.of hS) ?_;try simp only [aS,aN,aA,a0,a1])
       iterate 7 (refine Org.nA (SM.of hS) ?_;try simp only [aS,aN,aA,a0,a1])
       (refine Org.yV (SM.of hS) ?_;try simp only [aS,aN,aA,a0,a1]);refine Org.done (by kernel_rfl) ?_;clear HS1;have HS2:=hid hS;clear hS;go_upto_region 11 with fail;refine Org.begin [] (fun w'=>Below ws.heap.size ws w') [0,1,2,3,4,6,7,8,5,9,10,11] (by kernel_rfl) (Zz01 HS2.out 1) (fun hS=> ?_);iterate 4 (refine Org.yV (SM.of hS) ?_;try simp only [aS,aN,aA,a0,a1])
       (refine Org.yA (v:= ?_) (SM.of hS) ?_ ?_;rotate_left;(focus (intro w hSw;(try dsimp only at hSw);have hr:=HR5.out.below (HBS.out.trans (hSw.mono HBS.out.size)) HR5.out.lt;obtain ⟨q0,q1,q2,q3,q4,q5,q6,q7⟩:=Row.c8 hr;refine Pure.val ?_;go_simp;(try with_reducible rfl);done));try simp only [aS,aN,aA,a0,a1]);iterate 3 (refine Org.yV (SM.of hS) ?_;try simp only [aS,aN,aA,a0,a1])
       refine Org.gA fun K hK=> ?_
       refine Zz2c 43 73 (.tmp 63) rfl _ _ _ _ _ _ _ _ rfl ir _ _ _ _ _ _ _ _ Tryz.underlying43 hir hzr0 hzr1 ?_;rintro w6 g6 hg6 hr6 hb6 hz6;have HR6:=hid hr6;have HB6:=hid (show Below _ _ w6 by rw [← hg6] at hb6;exact hb6);have HG6:=hid (show ws.heap.size≤g6 by rw [← hg6];exact hS.size);clear hr6 hb6 hz6;refine hK.out _ _ (hS.trans (HB6.out.mono hS.size)) (fun hS2=> ?_);clear hK K hS;have hS:=hS2;clear hS2;try simp only [aS,aN,aA,a0,a1]
       refine Org.gA fun K hK=> ?_
       have hbeh:=(show Sl _ _ 8 Ax (nx - 0) ((xs.drop 0).flatMap encR) from (HXS.out.below (HBS.out.trans (hS.mono HBS.out.size))).sl);skip;refine Zz0k (.tmp 64) (.tmp 67) 43 rfl ws.heap.size 73 ir _ 8 80 Tryz.underlying43 hir hzr0 hzr1 hzr2 rfl (by omega) (.slice (some ⟨g6,0,none⟩) 1 1) 1 (encR ⟨r,Ar,nr,cr⟩) (by go_simp) (Zz5p HR6.out rfl HG6.out) _ _ (nx - 0) _ _ rfl hbeh (Zz5o _) (1+(nx - 0)) rfl _ rfl (by omega) (by omega) hS.size ?_;rintro A7 c7 w7 ho7 hg7 _;have hb7:=Zz04 hS (Zz5p HR6.out rfl HG6.out) hg7 (ZnR _) hS.size;have HO7:=hid ho7;have HB7:=hid hb7;clear ho7 hg7 hb7;refine hK.out _ _ HB7.out (fun hS2=> ?_);clear hK K hS;have hS:=hS2;clear hS2;try simp only [aS,aN,aA,a0,a1]
       refine Org.gA fun K hK=> ?_
       have hfr:=(HXS.out.below (HBS.out.trans (hS.mono HBS.out.size))).front (k:=0) (by omega);refine Zz1k (.tmp 62) (.tmp 68) 43 rfl 73 ir _ 8 80 Tryz.underlying43 hir hzr0 hzr1 hzr2 rfl (by omega) _ _ 0 _ (by go_simp) hfr _ A7 (1+(nx - 0)) c7 _ (by go_simp) (Sl.own HO7.out) (Zz65 _ _) (by omega) (nx+1) (by omega) _ rfl (by omega) (by omega) ?_;rintro A8 c8 w8 ho8 hb8;have HO8:=hid ho8;have HB8:=hid (hS.trans (hb8.mono hS.size));clear ho8 hb8;refine hK.out _ _ HB8.out (fun hS2=> ?_);clear hK K hS;have hS:=hS2;clear hS2;try simp only [aS,aN,aA,a0,a1]
       (refine Org.yV (SM.of hS) ?_;try simp only [aS,aN,aA,a0,a1]);refine Org.done (by kernel_rfl) ?_;have HO8f:=HO8;clear HS2;have HS1:=hid hS;clear hS;have HBX:=hid (HBS.out.trans (HS1.out.mono HBS.out.size));have hrx:=RRs.insert (HXS.out.up HBX.out) ⟨r,Ar,nr,cr⟩ (by have:=HOD5.out;exact ⟨Ar,cr,by rw [HNR.out];rfl,by rw [HNR.out];exact hr1,hr2,by rw [HNR.out];exact (this.below HBX.out).mono HBX.out.size⟩) (q:=0) hq HO8f.out;have HRX:=hid hrx;have HC8:=hid (Zz14 HO8f.out);have hend0:=HEND.out 0 hq HALL.out (fun h h0=>absurd h0 (by omega));have hend:=hend0.trans (if_pos (.inl rfl));have HE:=hid hend;clear hend hend0 hrx;go_wp2_with fail;go_roundw
       case rel=>exact ⟨k+1,nx+1,c8,A8,xs.take 0++⟨r,Ar,nr,cr⟩::xs.drop 0,by omega,by omega,HC8.out,rfl,by go_num,HRX.out,by rw [HE.out,List.map_append,List.map_cons,List.map_take,List.map_drop,HF.out];rfl,HB5.out.trans (HBX.out.mono HB5.out.size)⟩
       case measure=>simp [intOf] <;> omega
      ·obtain ⟨j,hj⟩:∃ j,q=j+1:=⟨q - 1,by omega⟩
       subst hz;have hz0:(0:Int) < (q:Int):=by omega
       have hsub:IntKind.i64.wrap ((q:Int) - 1)=(j:Int):=by rw [IntKind.wrap_i64];omega
       have hwj:IntKind.i64.wrap (j:Int)=(j:Int):=by rw [IntKind.wrap_i64];omega
       have hj0:(0:Int)≤(j:Int):=by omega
       have hjn:(j:Int) < (nx:Int):=by omega
       obtain ⟨bb,o,rfl,hbb,hxm,hcells⟩:=HXS.out.get (i:=j) (by omega);obtain ⟨x,hx⟩:∃ x,xs[j]! =x:=⟨_,rfl⟩;rw [hx] at hxm hcells;have hjr:∀ h:j < (recsL m (d.L.take k)).length,(recsL m (d.L.take k))[j]=x.r:=fun h=>by
        have h1:j < xs.length:=by rw [HXS.out.len];omega
        have h2:(recsL m (d.L.take k))[j]? =some x.r:=by
         rw [← HF.out,List.getElem?_map,ZgE h1,← hx,getElem!_pos xs j h1];rfl
        rw [ZgE h] at h2;injection h2
       have HJR:=hid hjr;have hjq:∀ h:q - 1 < (recsL m (d.L.take k)).length,(recsL m (d.L.take k))[q - 1]=x.r:=fun h=>by
        have e:q - 1=j:=by omega
        simp only [e];exact hjr _
       have HJQ:=hid hjq;obtain ⟨yr,Aj,nj,cj⟩:=x;have PC0:=hid (hcells 0 _ rfl);have PC1:=hid (hcells 1 _ rfl);have PC2:=hid (hcells 2 _ rfl);have PC3:=hid (hcells 3 _ rfl);have PC4:=hid (hcells 4 _ rfl);have PC5:=hid (hcells 5 _ rfl);have PC6:=hid (hcells 6 _ rfl);have PC7:=hid (hcells 7 _ rfl);simp only [Nat.add_zero,RD.dv] at PC0 PC1 PC2 PC3 PC4 PC5 PC6 PC7;obtain ⟨b2,hb2⟩:∃ b,ltR r yr=b:=⟨_,rfl⟩;have HLT:=hid hb2;obtain ⟨b3,hb3⟩:∃ b,ltR yr r=b:=⟨_,rfl⟩;have HGT:=hid hb3;have hqc:(q:Int)≤(cx:Int):=by omega
       have hq00:(0:Int)≤(q:Int):=by omega
       have HJ:=hid hj;clear hcells hxm hx hjr hjq hb2 hb3 hj;go_upto_region 8 with fail;refine Org.begin [] (fun w'=>Below ws.heap.size ws w') [0,1,2,3,4,5,6,7,8,9,10] (by kernel_rfl) (Zz01 (Below.refl _ _) 1) (fun hS=> ?_);(refine Org.yV (SM.of hS) ?_;try simp only [aS,aN,aA,a0,a1]);(refine Org.yA (v:= ?_) (SM.of hS) ?_ ?_;rotate_left;(focus (intro w hSw;(try dsimp only at hSw);refine Pure.val (v:= .bool true) ?_;go_simp;first | done | omega));try simp only [aS,aN,aA,a0,a1]);(refine Org.yV (SM.of hS) ?_;try simp only [aS,aN,aA,a0,a1])
       (refine Org.yA (v:= ?_) (SM.of hS) ?_ ?_;rotate_left;(focus (intro w hSw;(try dsimp only at hSw);have hr:=HR5.out.below (HBS.out.trans (hSw.mono HBS.out.size)) HR5.out.lt;obtain ⟨q0,q1,q2,q3,q4,q5,q6,q7⟩:=Row.c8 hr;refine Pure.val ?_;go_simp;(try with_reducible rfl);done));try simp only [aS,aN,aA,a0,a1]);iterate 4 (refine Org.yV (SM.of hS) ?_;try simp only [aS,aN,aA,a0,a1])
       (refine Org.yA (v:= ?_) (SM.of hS) ?_ ?_;rotate_left;(focus (intro w hSw;(try dsimp only at hSw);have y0:=((HBS.out.trans (hSw.mono HBS.out.size)).cell (p:=⟨bb,o+j*8,none⟩) hbb).trans PC0.out;have y1:=((HBS.out.trans (hSw.mono HBS.out.size)).cell (p:=⟨bb,o+j*8+1,none⟩) hbb).trans PC1.out;have y2:=((HBS.out.trans (hSw.mono HBS.out.size)).cell (p:=⟨bb,o+j*8+2,none⟩) hbb).trans PC2.out;have y3:=((HBS.out.trans (hSw.mono HBS.out.size)).cell (p:=⟨bb,o+j*8+3,none⟩) hbb).trans PC3.out;have y4:=((HBS.out.trans (hSw.mono HBS.out.size)).cell (p:=⟨bb,o+j*8+4,none⟩) hbb).trans PC4.out;have y5:=((HBS.out.trans (hSw.mono HBS.out.size)).cell (p:=⟨bb,o+j*8+5,none⟩) hbb).trans PC5.out;have y6:=((HBS.out.trans (hSw.mono HBS.out.size)).cell (p:=⟨bb,o+j*8+6,none⟩) hbb).trans PC6.out;have y7:=((HBS.out.trans (hSw.mono HBS.out.size)).cell (p:=⟨bb,o+j*8+7,none⟩) hbb).trans PC7.out;refine Pure.val ?_;go_simp;(try with_reducible rfl);done));try simp only [aS,aN,aA,a0,a1])
       refine Org.gA fun K hK=> ?_
       go_simp;go_at_call 52;refine (Zz4v r yr (.slice Ar nr cr) (.slice Aj nj cj) b2 _ HLT.out).mono ?_;rintro e wz ⟨rfl,hbz⟩;have hS3:=hS.trans (hbz.mono hS.size);clear hbz;go_wp2_with fail;refine hK.out _ _ hS3 (fun hS2=> ?_);clear hS3;clear hK K hS;have hS:=hS2;clear hS2;try simp only [aS,aN,aA,a0,a1]
       (refine Org.yV (SM.of hS) ?_;try simp only [aS,aN,aA,a0,a1]);refine Org.done (by kernel_rfl) ?_;have HS1:=hid hS;clear hS;cases b2 with
       | true=>
        go_wp2_with fail;have hj2:=HJ.out;clear HJ;go_roundw
        case rel=>exact ⟨j,_,by omega,rfl,by go_num,fun i h hji=>by
         by_cases e:i=j
         ·subst e;rw [HJR.out h];exact HLT.out
         ·exact HALL.out i h (by omega),HBS.out.trans (HS1.out.mono HBS.out.size)⟩
        case measure=>simp [intOf] <;> omega
       | false=>
        go_upto_region 10 with fail;refine Org.begin [] (fun w'=>Below ws.heap.size ws w') [0,1,2,3,4,5,6,7,8,9,10] (by kernel_rfl) (Zz01 HS1.out 1) (fun hS=> ?_);(refine Org.yV (SM.of hS) ?_;try simp only [aS,aN,aA,a0,a1]);(refine Org.yA (v:= ?_) (SM.of hS) ?_ ?_;rotate_left;(focus (intro w hSw;(try dsimp only at hSw);refine Pure.val (v:= .bool false) ?_;go_simp;first | done | omega));try simp only [aS,aN,aA,a0,a1]);iterate 5 (refine Org.yV (SM.of hS) ?_;try simp only [aS,aN,aA,a0,a1])
        (refine Org.yA (v:= ?_) (SM.of hS) ?_ ?_;rotate_left;(focus (intro w hSw;(try dsimp only at hSw);have y0:=((HBS.out.trans (hSw.mono HBS.out.size)).cell (p:=⟨bb,o+j*8,none⟩) hbb).trans PC0.out;have y1:=((HBS.out.trans (hSw.mono HBS.out.size)).cell (p:=⟨bb,o+j*8+1,none⟩) hbb).trans PC1.out;have y2:=((HBS.out.trans (hSw.mono HBS.out.size)).cell (p:=⟨bb,o+j*8+2,none⟩) hbb).trans PC2.out;have y3:=((HBS.out.trans (hSw.mono HBS.out.size)).cell (p:=⟨bb,o+j*8+3,none⟩) hbb).trans PC3.out;have y4:=((HBS.out.trans (hSw.mono HBS.out.size)).cell (p:=⟨bb,o+j*8+4,none⟩) hbb).trans PC4.out;have y5:=((HBS.out.trans (hSw.mono HBS.out.size)).cell (p:=⟨bb,o+j*8+5,none⟩) hbb).trans PC5.out;have y6:=((HBS.out.trans (hSw.mono HBS.out.size)).cell (p:=⟨bb,o+j*8+6,none⟩) hbb).trans PC6.out;have y7:=((HBS.out.trans (hSw.mono HBS.out.size)).cell (p:=⟨bb,o+j*8+7,none⟩) hbb).trans PC7.out;refine Pure.val ?_;go_simp;(try with_reducible rfl);done));try simp only [aS,aN,aA,a0,a1])
        (refine Org.yA (v:= ?_) (SM.of hS) ?_ ?_;rotate_left;(focus (intro w hSw;(try dsimp only at hSw);have hr:=HR5.out.below (HBS.out.trans (hSw.mono HBS.out.size)) HR5.out.lt;obtain ⟨q0,q1,q2,q3,q4,q5,q6,q7⟩:=Row.c8 hr;refine Pure.val ?_;go_simp;(try with_reducible rfl);done));try simp only [aS,aN,aA,a0,a1]);refine Org.gA fun K hK=> ?_
        go_simp;go_at_call 52;refine (Zz4v yr r (.slice Aj nj cj) (.slice Ar nr cr) b3 _ HGT.out).mono ?_;rintro e wz ⟨rfl,hbz⟩;have hS3:=hS.trans (hbz.mono hS.size);clear hbz;go_wp2_with fail;refine hK.out _ _ hS3 (fun hS2=> ?_);clear hS3;clear hK K hS;have hS:=hS2;clear hS2;try simp only [aS,aN,aA,a0,a1]
        (refine Org.yV (SM.of hS) ?_;try simp only [aS,aN,aA,a0,a1]);refine Org.done (by kernel_rfl) ?_;clear HS1;have HS2:=hid hS;clear hS;cases b3 with
        | true=>
         go_upto_region 11 with fail;refine Org.begin [] (fun w'=>Below ws.heap.size ws w') [0,1,2,3,4,6,7,8,5,9,10,11] (by kernel_rfl) (Zz01 HS2.out 1) (fun hS=> ?_);iterate 4 (refine Org.yV (SM.of hS) ?_;try simp only [aS,aN,aA,a0,a1])
         (refine Org.yA (v:= ?_) (SM.of hS) ?_ ?_;rotate_left;(focus (intro w hSw;(try dsimp only at hSw);have hr:=HR5.out.below (HBS.out.trans (hSw.mono HBS.out.size)) HR5.out.lt;obtain ⟨q0,q1,q2,q3,q4,q5,q6,q7⟩:=Row.c8 hr;refine Pure.val ?_;go_simp;(try with_reducible rfl);done));try simp only [aS,aN,aA,a0,a1]);iterate 3 (refine Org.yV (SM.of hS) ?_;try simp only [aS,aN,aA,a0,a1])
         refine Org.gA fun K hK=> ?_
         refine Zz2c 43 73 (.tmp 63) rfl _ _ _ _ _ _ _ _ rfl ir _ _ _ _ _ _ _ _ Tryz.underlying43 hir hzr0 hzr1 ?_;rintro w6 g6 hg6 hr6 hb6 hz6;have HR6:=hid hr6;have HB6:=hid (show Below _ _ w6 by rw [← hg6] at hb6;exact hb6);have HG6:=hid (show ws.heap.size≤g6 by rw [← hg6];exact hS.size);clear hr6 hb6 hz6;refine hK.out _ _ (hS.trans (HB6.out.mono hS.size)) (fun hS2=> ?_);clear hK K hS;have hS:=hS2;clear hS2;try simp only [aS,aN,aA,a0,a1]
         refine Org.gA fun K hK=> ?_
         have hbeh:=(HXS.out.below (HBS.out.trans (hS.mono HBS.out.size))).behind (k:=q) (c:=cx) (by omega) hcx.1;simp only [Option.map_some,Zz0m] at hbeh;refine Zz0k (.tmp 64) (.tmp 67) 43 rfl ws.heap.size 73 ir _ 8 80 Tryz.underlying43 hir hzr0 hzr1 hzr2 rfl (by omega) (.slice (some ⟨g6,0,none⟩) 1 1) 1 (encR ⟨r,Ar,nr,cr⟩) (by go_simp) (Zz5p HR6.out rfl HG6.out) _ _ (nx - q) _ _ rfl hbeh (Zz5o _) (1+(nx - q)) rfl _ rfl (by omega) (by omega) hS.size ?_;rintro A7 c7 w7 ho7 hg7 _;have hb7:=Zz04 hS (Zz5p HR6.out rfl HG6.out) hg7 (ZnR _) hS.size;have HO7:=hid ho7;have HB7:=hid hb7;clear ho7 hg7 hb7;refine hK.out _ _ HB7.out (fun hS2=> ?_);clear hK K hS;have hS:=hS2;clear hS2
         try simp only [aS,aN,aA,a0,a1]
         refine Org.gA fun K hK=> ?_
         have hfr:=(HXS.out.below (HBS.out.trans (hS.mono HBS.out.size))).front (k:=q) (by omega);refine Zz1k (.tmp 62) (.tmp 68) 43 rfl 73 ir _ 8 80 Tryz.underlying43 hir hzr0 hzr1 hzr2 rfl (by omega) _ _ q _ (by go_simp) hfr _ A7 (1+(nx - q)) c7 _ (by go_simp) (Sl.own HO7.out) (Zz65 _ _) (by omega) (nx+1) (by omega) _ rfl (by omega) (by omega) ?_;rintro A8 c8 w8 ho8 hb8;have HO8:=hid ho8;have HB8:=hid (hS.trans (hb8.mono hS.size));clear ho8 hb8;refine hK.out _ _ HB8.out (fun hS2=> ?_);clear hK K hS;have hS:=hS2;clear hS2;try simp only [aS,aN,aA,a0,a1]
         (refine Org.yV (SM.of hS) ?_;try simp only [aS,aN,aA,a0,a1]);refine Org.done (by kernel_rfl) ?_;have HO8f:=HO8;clear HS2;have HS1:=hid hS;clear hS;have HBX:=hid (HBS.out.trans (HS1.out.mono HBS.out.size));have hrx:=RRs.insert (HXS.out.up HBX.out) ⟨r,Ar,nr,cr⟩ (by have:=HOD5.out;exact ⟨Ar,cr,by rw [HNR.out];rfl,by rw [HNR.out];exact hr1,hr2,by rw [HNR.out];exact (this.below HBX.out).mono HBX.out.size⟩) (q:=q) hq HO8f.out;have HRX:=hid hrx;have HC8:=hid (Zz14 HO8f.out);have hend0:=HEND.out q hq HALL.out (fun h h0=>by rw [HJQ.out h];exact HLT.out);have hend:=hend0.trans (if_pos (.inr ⟨by rw [HLX.out];omega,by rw [HJQ.out (by rw [HLX.out];omega)];exact HGT.out⟩));have HE:=hid hend
         clear hend hend0 hrx;go_wp2_with fail;go_roundw
         case rel=>exact ⟨k+1,nx+1,c8,A8,xs.take q++⟨r,Ar,nr,cr⟩::xs.drop q,by omega,by omega,HC8.out,rfl,by go_num,HRX.out,by rw [HE.out,List.map_append,List.map_cons,List.map_take,List.map_drop,HF.out];rfl,HB5.out.trans (HBX.out.mono HB5.out.size)⟩
         case measure=>simp [intOf] <;> omega
        | false=>
         have HBX:=hid (HBS.out.trans (HS2.out.mono HBS.out.size));have hend0:=HEND.out q hq HALL.out (fun h h0=>by rw [HJQ.out h];exact HLT.out);have hend:=hend0.trans (if_neg (by rintro (h0 | ⟨h0,h1⟩);(· omega);(· rw [HJQ.out h0,HGT.out] at h1;cases h1)));have HE:=hid hend;clear hend hend0;go_wp2_with fail;go_roundw
         case rel=>exact ⟨k+1,nx,cx,_,xs,by omega,by omega,hcx,rfl,by go_num,HXS.out.up HBX.out,by rw [HE.out];exact HF.out,HB5.out.trans (HBX.out.mono HB5.out.size)⟩
         case measure=>simp [intOf] <;> omega
  ·have hlt':¬ (k:Int) < (nl:Int):=by omega
   obtain rfl:k=nl:=by omega
   go_wp2_with fail;go_ret
   have hm2:=HF.out;rw [ZtL (by rw [HN.out];exact ZnR _)] at hm2;exact ⟨Ax,nx,cx,xs,rfl,by rw [← hm2,List.length_map,HXSR.out.len],hcx,HXSR.out,hm2,HBW.out.trans (HBR.out.mono HBW.out.size)⟩
end Go.Proofs.YtnknjeipfjdjoaaGreatDoor
