/- SplitP CopyMani ManiEdit BentS -/
import Derived.Deep.DeepCutAuto
import Derived.BigGuardPart
import Derived.Test.YtnknjeipfjdjoaaGreatDoorBScanTells16
import Derived.Test.YtnknjeipfjdjoaaGreatDoorBScanTells36
import Derived.Test.YtnknjeipfjdjoaaGreatDoorBScanTells41
set_option maxHeartbeats 8000000
set_option maxRecDepth 20000
set_option linter.unusedSimpArgs false
set_option linter.unusedVariables false
set_option linter.unusedSectionVars false
namespace Go.Proofs.YtnknjeipfjdjoaaGreatDoor
open Go.RowKit Wells
theorem _root_.Wells.may_seqS {m:Mani} (h:m.may=true):1≤m.seq∧m.seq≤2147483647:=by
 unfold Mani.may preB at h;simp only [Bool.and_eq_true,decide_eq_true_eq] at h;exact h.1.1
def SplitR (m:Mani) (w:World) (e:Ending) (w':World):Prop:=
 ∃ (A:Option Addr) (c:Nat) (vs:List Value),e= .returned (.slice A (pagesL m.seq (pack m)).length c)∧OBs w.heap.size w' (.slice A (pagesL m.seq (pack m)).length c) vs (pagesL m.seq (pack m))∧Below w.heap.size w w'
theorem Zz3v (m:Mani) (B:Nat) (Ad Ao:Option Addr) (nd cd no co:Nat) (ts:List Value) (w:World) (h:RM w B m Ad nd cd Ao no co ts) (hB:B≤w.heap.size) (h64:M64 m) (hnm:∀ e∈m.objs,e.name.length≤1048576):
  Calls Tryz.prog 24 #[m.val (.slice Ad nd cd) (.slice Ao no co)] w (SplitR m w):=by
 have hb:Below w.heap.size w (w.alloc (.cells #[.int .i64 m.seq,.int .i64 m.next,.int .i64 m.P.K,.int .i64 m.P.H,.int .i64 m.P.S,.int .i64 m.extra,.slice Ad nd cd,.slice Ao no co] 28)):=(Below.refl _ _).alloc (ZnR _) _;have hx:=Row.new w 28 #[.int .i64 m.seq,.int .i64 m.next,.int .i64 m.P.K,.int .i64 m.P.H,.int .i64 m.P.S,.int .i64 m.extra,.slice Ad nd cd,.slice Ao no co];have HR:=hid ((h.below (hb.mono hB)));obtain ⟨x0,x1,x2,x3,x4,x5,x6,x7⟩:=Row.c8 hx;have HX:=hid hx;have HB:=hid hb;have hz:=hb.size;clear hb hx h;unfold Mani.val;go_enter Tryz.func24,Tryz.ntmps24;go_upto_region 1 with fail
 generalize w.alloc (.cells #[.int .i64 m.seq,.int .i64 m.next,.int .i64 m.P.K,.int .i64 m.P.H,.int .i64 m.P.S,.int .i64 m.extra,.slice Ad nd cd,.slice Ao no co] 28)=w1 at*;go_wp2_with fail;refine (Zz5e m B Ad Ao nd cd no co ts w1 HR.out (ZnT hB hz) h64 hnm).mono ?_;rintro e w2 ⟨A1,n,c1,rfl,hn,hn1,ho,hb2⟩;have hc1:n≤c1∧c1≤9223372036854775807:=by
  obtain ⟨_,_,ee,hc2,hc3⟩:=Zz0h ho;injection ee with e1 e2 e3;subst e3;exact ⟨by omega,by omega⟩
 unfold OB at ho;rw [hn] at ho;have HO:=hid ho;have HB2:=hid (HB.out.trans (hb2.mono hz));have HX2:=hid (HX.out.below hb2 HX.out.lt);clear ho hb2 x0 x1 x2 x3 x4 x5 x6 x7;obtain ⟨N,hN⟩:∃ N,pageN (pack m)=N:=⟨_,rfl⟩;have hNi:((n:Int)+48 - 1) / 48=(N:Int):=by rw [← hN];unfold pageN;rw [hn];omega
 have hNn:N=(n+47) / 48:=by rw [← hN];unfold pageN;rw [hn]
 have HN:=hid hN;have hN21:N≤21:=by omega
 have HNN:=hid hNn;clear hNn;clear hN;go_wp2_with fail;rw [hNi];clear hNi;obtain ⟨gm,hgmE⟩:∃ gm,w.heap.size=gm:=⟨_,rfl⟩;try rw [hgmE]
 have HGM:=hid hgmE;clear hgmE;go_loopw [5,16] (fun v i wr=>∃ (k:Nat) (A:Option Addr) (c:Nat) (vs:List Value),k≤N∧v= .slice A k c∧i= .int .i64 (k:Int)∧(k≤c∧c≤9223372036854775807)∧OBs w2.heap.size wr (.slice A k c) vs ((pagesL m.seq (pack m)).take k)∧Below w2.heap.size w2 wr) (fun _ i _=>N - (intOf i).toNat)
 case atStart=>exact ⟨0,none,0, [],Nat.zero_le _,rfl,rfl,by omega,by simpa using OBs.nil_ _ _,Below.refl _ _⟩
 case round=>
  obtain ⟨k,A,c,vs,hk,rfl,rfl,hkc,hobs,hbr⟩:=hrel;have HOBS:=hid hobs;have HBR:=hid hbr;clear hobs hbr;by_cases hlt:k < N
  ·have hlt':(k:Int) < (N:Int):=by omega
   obtain ⟨en,hen,hen1⟩:∃ en:Nat,(if ((k:Int)+1)*48 < (n:Int) then ((k:Int)+1)*48 else (n:Int))=(en:Int)∧en=min n ((k+1)*48):=by
    refine ⟨min n ((k+1)*48),?_,rfl⟩;split <;> omega
   have HEN:=hid hen1;clear hen1;go_upto_region 8 with fail;try rw [hen]
   have hen':=HEN.out;obtain ⟨st,hst⟩:∃ st,48*k=st:=⟨_,rfl⟩;have hk48:st≤en:=by have:=HNN.out;omega
   have hen2:en≤n:=by omega
   obtain ⟨Ac,hAc⟩:∃ Ac,(if c1=st then A1 else Option.map (fun x=>x.add st) A1)=Ac:=⟨_,rfl⟩;obtain ⟨Lc,hLc⟩:∃ Lc,en - st=Lc:=⟨_,rfl⟩;obtain ⟨Cc,hCc⟩:∃ Cc,c1 - st=Cc:=⟨_,rfl⟩;have hsl:=(Sl.own HO.out).below HBR.out;have hcut:=hsl.cut (c:=c1) hk48 hen2 (by have:=hc1.1;omega);have hpd:((pack m).drop st).take Lc=pageD (pack m) k:=by
    unfold pageD;rw [hst];have hl:=hn;rcases Nat.le_total n ((k+1)*48) with h1 | h1
    ·rw [ZtL (by simp;omega),ZtL (by simp;omega)]
    ·rw [show Lc=48 by omega]
   simp only [Nat.mul_one] at hcut;rw [hAc,hLc,← List.map_drop,← List.map_take,hpd] at hcut;have hpm:m.may=true:=by
    cases hm:m.may
    ·have:pack m= []:=by unfold pack;rw [hm];rfl
     rw [this] at hn;simp at hn
     have:=HNN.out
     omega
    ·rfl
   have hq:=may_seqS hpm;have hLT:((pagesL m.seq (pack m)).take k).length=k:=by rw [List.length_take,Zz0n,HN.out];omega
   have hpc:cellL 2 (pageH m.seq k N Lc++pageD (pack m) k)=pageC m.seq (pack m) k:=by
    unfold pageC;rw [HN.out];have:(pageD (pack m) k).length=Lc:=by rw [Zz3g];omega
    rw [this]
   have htk:(pagesL m.seq (pack m)).take (k+1)=(pagesL m.seq (pack m)).take k++ [pageC m.seq (pack m) k]:=by
    have hl:k < (pagesL m.seq (pack m)).length:=by rw [Zz0n,HN.out];exact hlt
    rw [ZtS hl];simp [pagesL]
   have hrow:=HX2.out.below HBR.out HX2.out.lt;have v0:=hrow.cell 0;simp only [ZgZ] at v0;have hgm:=hrow.lt;rw [HGM.out] at v0 hgm;have hw1:IntKind.i64.wrap ((k:Int)*48)=(st:Int):=by rw [IntKind.wrap_i64];omega
   have hs1:(st:Int)≤(en:Int):=by omega
   have hs2:(en:Int)≤(n:Int):=by omega
   have hs3:(en:Int)≤(c1:Int):=by have:=hc1.1;omega
   have hL48:Lc≤48:=by omega
   have HSL:=hid hcut;have HQ:=hid (show 0≤m.seq∧m.seq < 4294967296 by omega);have HLT:=hid hLT;have HPC:=hid hpc;have HTK:=hid htk;obtain ⟨ibs,hibs,hzb0,hzb1,hzb2⟩:=info_parts infoBs;clear hsl hcut hrow hen' hk48 hst hpd hpm hq hLT hpc htk;refine Org.begin [10] (fun w'=>Below wr.heap.size wr w') [0,1,2,3,4,5,6,7,8,9,10,11,12,13] (by kernel_rfl) (Zz01 (Below.refl _ _) 1) (fun hS=> ?_);iterate 2 (refine Org.fA (v:= ?_) (SM.of hS) ?_ ?_;rotate_left;(focus (intro w;refine Pure.val ?_;go_simp;(try with_reducible rfl);done));try simp only [aS,aN,aA,a0,a1])
   (refine Org.yA (v:= ?_) (SM.of hS) ?_ ?_;rotate_left;(focus (intro w hSw;(try dsimp only at hSw);have q0:=(hSw.cell (p:=⟨gm,0,none⟩) hgm).trans v0;refine Pure.val ?_;go_simp;(try with_reducible rfl);done));try simp only [aS,aN,aA,a0,a1]);iterate 2 (refine Org.yV (SM.of hS) ?_;try simp only [aS,aN,aA,a0,a1])
   iterate 4 (refine Org.fA (v:= ?_) (SM.of hS) ?_ ?_;rotate_left;(focus (intro w;refine Pure.val ?_;go_simp;(try with_reducible rfl);done));try simp only [aS,aN,aA,a0,a1])
   (refine Org.yV (SM.of hS) ?_;try simp only [aS,aN,aA,a0,a1]);refine Org.mark (p:=10) rfl (by kernel_rfl) (by kernel_rfl) (by kernel_rfl) (by kernel_rfl) (fun K hK=> ?_);go_simp;go_at_call 66;refine (Zzgz m.seq (k:Int) (N:Int) w2.heap.size Ac (pageD (pack m) k) Lc Cc _ HQ.out (by omega) (by omega) (HSL.out.below (hS.mono HBR.out.size)) HBR.out.size (by omega)).mono ?_;rintro e wz ⟨vz,rfl,hoz,hbz⟩;obtain ⟨Az,cz,rfl,hz3,hz4,_⟩:=Zz0h hoz;have HOZ:=hid hoz;have HBZ:=hid (hS.trans (hbz.mono hS.size));clear hoz hbz;go_wp2_with fail;refine hK.out _ _ ?_;clear hK K hS;try simp only [aS,aN,aA,a0,a1]
   refine Org.mark (p:=10) rfl (by kernel_rfl) (by kernel_rfl) (by kernel_rfl) (by kernel_rfl) (fun K hK=> ?_);refine Zz2s 23 33 (.tmp 35) (by rfl) _ (by rfl) rfl ibs (.slice none 0 0) Tryz.underlying23 hibs hzb0 hzb1 rfl ?_;rintro w6 g6 hg6 hr6 hb6 hsz6;subst hg6;have HR6:=hid hr6;have HB6:=hid hb6;have HS6:=hid (HBZ.out.trans (hb6.mono HBZ.out.size));clear hr6 hb6 hsz6;refine hK.out _ _ ?_;clear hK K;try simp only [aS,aN,aA,a0,a1]
   refine Org.mark (p:=10) rfl (by kernel_rfl) (by kernel_rfl) (by kernel_rfl) (by kernel_rfl) (fun K hK=> ?_);refine Zz0k (.tmp 25) (.tmp 36) 23 rfl w2.heap.size 33 ibs (.slice none 0 0) 1 24 Tryz.underlying23 hibs hzb0 hzb1 hzb2 rfl (by omega) (.slice A k c) k vs rfl (by have:=(HOBS.out.below HS6.out).own;rwa [HLT.out] at this) (wz.heap.size+1) (some ⟨wz.heap.size,0,none⟩) 1 1 [_] rfl (HR6.out.sl (by omega) (ZnR _)) (by intro u hu;simp only [List.mem_singleton] at hu;subst hu;rfl) (k+1) rfl _ rfl (by omega) (by omega) (ZnT HBR.out.size HS6.out.size) ?_;rintro A7 c7 w7 ho7 hg7 _
   have hps:=OBs.push (HOBS.out.below HS6.out) (Zz0b (HOZ.out.below HB6.out) HBR.out.size) (by rw [HLT.out];exact ho7) hg7;have hb7:=Zz04 (HBR.out.trans (HS6.out.mono HBR.out.size)) (by have:=(HOBS.out.below HS6.out).own;exact this) hg7 (ZnR _) (ZnT HBR.out.size HS6.out.size);have hc7:=Zz14 ho7;have HPS:=hid hps;have HB7:=hid hb7;clear hps hb7 ho7 hg7;refine hK.out _ _ ?_;clear hK K;try simp only [aS,aN,aA,a0,a1]
   (refine Org.fA (v:= ?_) (SM.past (p:=10) (by kernel_rfl) (by kernel_rfl)) ?_ ?_;rotate_left;(focus (intro w;refine Pure.val ?_;go_simp;(try with_reducible rfl);done));try simp only [aS,aN,aA,a0,a1]);refine Org.done (by kernel_rfl) ?_;skip;clear hAc hLc hCc hw1;go_wp2_with fail;go_roundw
   case rel=>
    have hps:=HPS.out;rw [HPC.out,← HTK.out] at hps;exact ⟨k+1,A7,c7,_,by omega,rfl,by go_num,hc7,hps,HB7.out⟩
   case measure=>simp [intOf] <;> omega
  ·have hlt':¬ (k:Int) < (N:Int):=by omega
   obtain rfl:k=N:=by omega
   go_wp2_with fail;go_ret
   have hl:(pagesL m.seq (pack m)).length=k:=by rw [Zz0n,HN.out]
   have ho:=HOBS.out;rw [ZtL (by omega)] at ho;refine ⟨A,c,vs,by rw [hl];rfl,?_,HB2.out.trans (HBR.out.mono HB2.out.size)⟩;rw [hl];exact ho.base HB2.out.size
theorem Sl.fresh4z (w:World) (N:Nat) (cs:List Value) (t:TypeId) (hm:cs.length=4) (hN:w.heap.size=N):Sl (w.alloc (.cells cs.toArray t (0,0))) (N+1) 4 (some ⟨N,0,none⟩) 1 cs:=by
 subst hN;exact Sl.fresh4m w cs t hm
theorem Zzfp (l:List Int):∀ v∈l.map iv,v.oneCell'=true:=by
 intro v hv;obtain ⟨b,_,rfl⟩:=List.mem_map.1 hv;rfl
theorem ST.first {m:Mani} {w wx:World} {g0 gm:Nat} {Ad:Option Addr} {nd cd:Nat} {ds:List Int} {dv ov:Value}
  (hq:Row wx g0 28 [.int .i64 0,.int .i64 0,.int .i64 0,.int .i64 0,.int .i64 0,.int .i64 0,.slice none 0 0,.slice none 0 0])
  (hx:Row wx gm 28 [.int .i64 m.seq,.int .i64 m.next,.int .i64 m.P.K,.int .i64 m.P.H,.int .i64 m.P.S,.int .i64 m.extra,dv,ov])
  (hd:wx.ownsRow w.heap.size 3 1 (.slice Ad nd cd) nd (ds.map iv)) (hb:Below w.heap.size w wx) (hne:gm≠g0) (hgm:w.heap.size≤gm):
  ST w ((wx.setCell ⟨gm,6,none⟩ (.slice Ad nd cd)).setCell ⟨gm,7,none⟩ (.slice none 0 0)) g0 gm m.seq m.next m.P m.extra Ad nd cd ds none 0 0 [] []:=by
 have hx6:=hx.set 6 (.slice Ad nd cd);have hd6:=hd.far_ hx (by decide) 6 (.slice Ad nd cd);have hq6:=hq.far (p:=⟨gm,6,none⟩) hne.symm (.slice Ad nd cd);have hb6:=hb.setCell (p:=(⟨gm,6,none⟩:Addr)) hgm (.slice Ad nd cd);exact ⟨hq6.far (p:=⟨gm,7,none⟩) hne.symm _,hx6.set 7 _,hd6.far_ hx6 (by decide) 7 _,OEs.nil_ _ _,rfl,hb6.setCell (p:=(⟨gm,7,none⟩:Addr)) hgm _⟩
def CopyR (w:World) (m:Mani) (e:Ending) (w':World):Prop:=
 ∃ (Ad:Option Addr) (nd cd:Nat) (Ao:Option Addr) (no co:Nat) (ts:List Value),e= .returned (m.val (.slice Ad nd cd) (.slice Ao no co))∧OM w.heap.size w' m Ad nd cd Ao no co ts∧Dj ts (.slice Ad nd cd) no∧Below w.heap.size w w'
theorem Zzg5 (m:Mani) (B:Nat) (Ad Ao:Option Addr) (nd cd no co:Nat) (ts:List Value) (w:World) (h:RM w B m Ad nd cd Ao no co ts) (hB:B≤w.heap.size) (hnd:nd≤1048576) (hno:no≤1048576) (hnt:∀ e∈m.objs,e.tries.length≤1048576):
  Calls Tryz.prog 12 #[m.val (.slice Ad nd cd) (.slice Ao no co)] w (CopyR w m):=by
 obtain ⟨i0,hi,hz0,hz1,hz2⟩:=info_parts infoI2;obtain ⟨i1,hi',hz0',hz1',hz2'⟩:=info_parts infoE;have HR:=hid h;have HNT:=hid hnt;have hol:=h.o.len;have HOL:=hid hol;have hx0:=Row.new w 28 #[.int .i64 m.seq,.int .i64 m.next,.int .i64 m.P.K,.int .i64 m.P.H,.int .i64 m.P.S,.int .i64 m.extra,.slice Ad nd cd,.slice Ao no co];have hb1:Below w.heap.size w (w.alloc (maniObj 28 m (.slice Ad nd cd) (.slice Ao no co))):=(Below.refl _ _).alloc (ZnR _) _;have hx1:=hx0.alloc (.cells #[.int .i64 0,.int .i64 0,.int .i64 0,.int .i64 0,.int .i64 0,.int .i64 0,.slice none 0 0,.slice none 0 0] 28)
 have hq1:=Row.new (w.alloc (maniObj 28 m (.slice Ad nd cd) (.slice Ao no co))) 28 #[.int .i64 0,.int .i64 0,.int .i64 0,.int .i64 0,.int .i64 0,.int .i64 0,.slice none 0 0,.slice none 0 0];have hb2:=hb1.alloc hb1.size (.cells #[.int .i64 0,.int .i64 0,.int .i64 0,.int .i64 0,.int .i64 0,.int .i64 0,.slice none 0 0,.slice none 0 0] 28);have hgs:(w.alloc (maniObj 28 m (.slice Ad nd cd) (.slice Ao no co))).heap.size=w.heap.size+1:=by simp
 rw [hgs] at hq1;clear hx0 hb1 hgs h hnt hol;unfold Mani.val;go_enter Tryz.func12,Tryz.ntmps12;have HD:=hid ((HR.out.d.below (hb2.mono hB)));have HX1:=hid hx1;have HQ1:=hid hq1;have HB2:=hid hb2;have hbz:=hb2.size;have hdl:=HR.out.dl;have HDLN:=hid hdl;clear hx1 hq1 hb2 hdl
 go_wp2_with (at_builtin;go_must (refine Zz03 rfl (.const (.slice none 0 0)) (.tmp 7) 22 rfl w.heap.size 3 i0 (.int .i64 0) 1 8 Tryz.underlying22 hi hz0 hz1 hz2 rfl (by omega) _ 0 [] rfl (World.ownsRow_nil _ _ _ _) B Ad nd cd (m.drives.map iv) rfl HD.out (Zzfp _) nd (by omega) (m.drives.map iv) rfl (by omega) (by omega) hbz ?_);intro A3 c3 w3 o3 g3 _;have hx3:=HX1.out.grown g3 (fun e=>by cases e);have hq3:=HQ1.out.grown g3 (fun e=>by cases e);have hb3:=HB2.out.grown g3 HB2.out.size (fun k hk=>by cases hk);have HST3:=hid (ST.first (m:=m) hq3 hx3 o3 hb3 (by omega) (ZnR _));have f6:=hx3.frozen 6;have k6:=hx3.cell 6;have hx6:=hx3.set 6 (.slice A3 nd c3);have f7:=hx6.frozen 7;have k7:=hx6.cell 7;simp only [ZgS,ZgZ,List.set_cons_succ,List.set_cons_zero] at k6 k7;clear hx3 hq3 hb3 hx6 o3 g3)
 have hbw:=HST3.out.be;go_loopw [15] (fun i wr=>∃ (k:Nat) (A1:Option Addr) (c1:Nat) (tvs:List Value),k≤no∧i= .int .i64 (k:Int)∧ST w wr (w.heap.size+1) w.heap.size m.seq m.next m.P m.extra A3 nd c3 m.drives A1 k c1 tvs (m.objs.take k)∧Dj tvs (.slice A3 nd c3) k) (fun i _=>no - (intOf i).toNat)
 case atStart=>exact ⟨0,none,0, [],Nat.zero_le _,rfl,HST3.out,Dj.nil_ _⟩
 case round=>
  obtain ⟨k,A1,c1,tvs,hk,rfl,hst,hdj⟩:=hrel;have HDJ:=hid hdj;clear hdj;have hbr:=hst.be;have hzr:=hbr.size;have HST:=hid hst;clear HST3 f6 k6 f7 k7 hst;by_cases hlt:k < no
  ·have hre:=HR.out.o.below (hbr.mono hB)
   obtain ⟨bb,o,A',c',rfl,hbb,e0,e1,e2,e3,hc1,hc2,hsl⟩:=hre.get hlt;have hkl:k < m.objs.length:=by rw [HOL.out];exact hlt
   have hmem:m.objs.getD k default∈m.objs:=by rw [ZgD,ZgE hkl];exact List.getElem_mem _
   have htk:m.objs.take (k+1)=m.objs.take k++ [m.objs.getD k default]:=by
    rw [ZtS hkl,ZgD,ZgE hkl];rfl
   have hnx:=HNT.out _ hmem;obtain ⟨x,hx⟩:∃ x,m.objs.getD k default=x:=⟨_,rfl⟩;rw [hx] at e0 e1 e2 e3 hc1 hsl htk hnx;obtain ⟨nt,hnt⟩:∃ n,x.tries.length=n:=⟨_,rfl⟩;rw [hnt] at e3 hc1 hsl hnx;have HNT2:=hid hnt;have HTK:=hid htk;have hxe:=Row.new wr 61 #[.string (strB x.name),.int .i64 x.obj,.int .i64 x.len,.slice A' nt c'];have hbx:Below wr.heap.size wr (wr.alloc (.cells #[.string (strB x.name),.int .i64 x.obj,.int .i64 x.len,.slice A' nt c'] 61)):=(Below.refl _ _).alloc (ZnR _) _;have HXE:=hid hxe;have HBX:=hid hbx;have HSLX:=hid (hsl.below (hbx.mono (ZnT hB hzr)))
   have hz9:w.heap.size≤(wr.alloc (.cells #[.string (strB x.name),.int .i64 x.obj,.int .i64 x.len,.slice A' nt c'] 61)).heap.size:=ZnT hzr hbx.size;have hgm:w.heap.size+1 < wr.heap.size:=HST.out.q.lt;have HTL:=hid (show tvs.length=k from HST.out.o.tl.trans (by rw [List.length_take];omega));have HDLT:=hid (fun b hb=>(HST.out.d.lt b hb).2);have HTLT:Hid (∀ i,i < k→∀ b,(tvs.getD i undef).ownBlock=some b→b < wr.heap.size):=hid (fun i hi2 b hb2=>by
    obtain ⟨A9,c9,e9,ho9⟩:=HST.out.o.at_ i (by rw [HST.out.ol];exact hi2);rw [e9] at hb2;exact (ho9.lt b hb2).2)
   clear hre hmem hx hnt htk hsl hxe hbx;go_wp2_with (first
    | ((with_reducible show wpList _ _ _ (⟨some 21,_,_,_,_,_⟩::_) _ _);go_must (refine Zz03 rfl (.const (.slice none 0 0)) (.tmp 20) 22 rfl w.heap.size 3 i0 (.int .i64 0) 1 8 Tryz.underlying22 hi hz0 hz1 hz2 rfl (by omega) (.slice none 0 0) 0 [] rfl (World.ownsRow_nil _ _ _ _) B A' nt c' (x.tries.map iv) rfl HSLX.out (Zzfp _) nt (by omega) (x.tries.map iv) rfl (by omega) (by omega) hz9 ?_);intro A6 c6 w6 o6 g6 wh6;have HDJ2:=hid (HDJ.out.push (tv:= .slice A6 nt c6) (N:=wr.heap.size) HTL.out HTLT.out HDLT.out (by rcases wh6 with h6 | h6;exact .inl (h6.trans rfl);exact .inr ⟨_,h6,HBX.out.size⟩));clear wh6;have hb6:=HBX.out.trans (((Below.refl _ _).grown g6 (ZnR _) (fun k hk=>by cases hk)).mono HBX.out.size);have hx6:=HXE.out.grown g6 (fun e=>by cases e);have f3:=hx6.frozen 3;have k3:=hx6.cell 3;have hx7:=hx6.set 3 (.slice A6 nt c6);have HO7:=hid (o6.far_ hx6 (by decide) 3 (.slice A6 nt c6));have hb7:=hb6.setCell (p:=(⟨wr.heap.size,3,none⟩:Addr)) (ZnR _) (.slice A6 nt c6);have HST7:=hid (HST.out.below hb7);have u0:=hx7.cell 0;have u1:=hx7.cell 1;have u2:=hx7.cell 2;have u3:=hx7.cell 3;have u7:=HST7.out.x.cell 7;simp only [ZgS,ZgZ,List.set_cons_succ,List.set_cons_zero] at k3 u0 u1 u2 u3 u7;clear hb6 hx6 hx7 hb7 o6 g6)
    | ((with_reducible show wpList _ _ _ (⟨some 27,_,_,_,_,_⟩::_) _ _);have how7:=HST7.out.o.own;rw [HST7.out.ol] at how7;go_must (refine Zz03 rfl (.tmp 24) (.tmp 26) 26 rfl w.heap.size 61 i1 (.agg #[.string ⟨#[]⟩,.int .i64 0,.int .i64 0,.slice none 0 0]) 4 56 Tryz.underlying26 hi' hz0' hz1' hz2' rfl (by omega) (.slice A1 k c1) k (entsC (m.objs.take k) tvs) rfl (how7.alloc _) _ _ 1 1 [.string (strB x.name),.int .i64 x.obj,.int .i64 x.len,.slice A6 nt c6] rfl (Sl.fresh4z _ _ _ _ rfl (by simp [World.setCell])) (by simp [Value.oneCell']) (k+1) rfl _ rfl (by omega) (by omega) (HST7.out.alloc _).be.size ?_);intro A8 c8 w8 o8 g8 _;have X8:=HST7.out.pushO (nm:=x.name) (ob:=x.obj) (ln:=x.len) (trs:=x.tries) HO7.out (ZnR _) o8 g8;have fx8:=X8.1.frozen 7;have kx8:=X8.1.cell 7;simp only [ZgS,ZgZ] at kx8;have HX8:=hid (X8.2 (by omega) (ZnR _));clear X8 o8 g8 how7))
   go_roundw
   case rel=>exact ⟨k+1,A8,c8,tvs++ [.slice A6 nt c6],by omega,by go_num,by rw [HTK.out];exact HX8.out,HDJ2.out⟩
   case measure=>simp [intOf];omega
  ·obtain rfl:k=no:=by omega
   have hsf:=HST.out;have htake:m.objs.take k=m.objs:=ZtL (by rw [HOL.out];exact ZnR _);rw [htake] at hsf;have c0:=hsf.x.cell 0;have c1':=hsf.x.cell 1;have c2:=hsf.x.cell 2;have c3':=hsf.x.cell 3;have c4:=hsf.x.cell 4;have c5:=hsf.x.cell 5;have c6:=hsf.x.cell 6;have c7:=hsf.x.cell 7;have d0:=hsf.q.cell 0;have d1:=hsf.q.cell 1;have d2:=hsf.q.cell 2;have d3:=hsf.q.cell 3;have d4:=hsf.q.cell 4;have d5:=hsf.q.cell 5;have d6:=hsf.q.cell 6;have d7:=hsf.q.cell 7;have f0:=hsf.q.frozen 0;have f1:=hsf.q.frozen 1;have f2:=hsf.q.frozen 2;have f3:=hsf.q.frozen 3;have f4:=hsf.q.frozen 4;have f5:=hsf.q.frozen 5;have f6:=hsf.q.frozen 6;have f7:=hsf.q.frozen 7
   simp only [ZgS,ZgZ] at c0 c1' c2 c3' c4 c5 c6 c7 d0 d1 d2 d3 d4 d5 d6 d7;have HSF:=hid hsf;have R8:=hid (row8m hsf.q (.int .i64 m.seq) (.int .i64 m.next) (.int .i64 m.P.K) (.int .i64 m.P.H) (.int .i64 m.P.S) (.int .i64 m.extra) (.slice A3 nd c3) (.slice A1 k c1));have hg8:=grown8s wr (w.heap.size+1) (.int .i64 m.seq) (.int .i64 m.next) (.int .i64 m.P.K) (.int .i64 m.P.H) (.int .i64 m.P.S) (.int .i64 m.extra) (.slice A3 nd c3) (.slice A1 k c1);have hom:OM w.heap.size wr m A3 nd c3 A1 k c1 tvs:=⟨hsf.d,HDLN.out,hsf.o,hsf.ol⟩;have HOM:=hid (hom.other hg8 hsf.q (by decide) (by decide));have HBF:=hid (hsf.be.grown hg8 hsf.be.size (fun j hj=>by injection hj with hj;omega))
   clear hsf hg8 hom htake;go_wp2_with fail;obtain ⟨q0,q1,q2,q3,q4,q5,q6,q7⟩:=Row.c8 R8.out;refine bodyPost_ret (v:=m.val (.slice A3 nd c3) (.slice A1 k c1)) ?_ rfl ⟨A3,nd,c3,A1,k,c1,tvs,rfl,HOM.out,HDJ.out,HBF.out⟩;simp [results,Tryz.results12,go_sem,q0,q1,q2,q3,q4,q5,q6,q7]
   rfl
end Go.Proofs.YtnknjeipfjdjoaaGreatDoor
namespace Wells
open Go Go.RowKit
theorem Zz8w:∀ (es:List Ent) (ts:List Value) (k j:Nat) (u:Value) (e':Ent) (tv':Value),es.length=ts.length→k < es.length→j < 4→e'.cells tv'=((es.getD k default).cells (ts.getD k undef)).set j u→entsC (es.set k e') (ts.set k tv')=(entsC es ts).set (k*4+j) u
 | e::es,t::ts,0,j,u,e',tv',_,_,hj,h=>by
  simp only [List.set_cons_zero,entsC,Nat.zero_mul,Nat.zero_add];rw [List.set_append_left _ _ (by show j < 4;exact hj),h];rfl
 | e::es,t::ts,k+1,j,u,e',tv',hl,hk,hj,h=>by
  simp only [List.set_cons_succ,entsC];rw [Zz8w es ts k j u e' tv' (by simpa using hl) (by simpa using hk) hj h,List.set_append_right _ _ (by show 4≤_;omega)];show _=_++(entsC es ts).set ((k+1)*4+j - 4) u;rw [show (k+1)*4+j - 4=k*4+j by omega]
 | [],_,_,_,_,_,_,_,hk,_,_=>by simp at hk
 | _::_, [],_,_,_,_,_,hl,_,_,_=>by simp at hl
theorem Zz5t {w:World} {base size n:Nat} {t:TypeId} {v:Value} {xs:List Value} (h:w.ownsRow base t size v n xs) (hn:0 < n):
  ∃ g c cur,v= .slice (some ⟨g,0,none⟩) n c∧base≤g∧Row w g t cur∧cur.length=c*size∧cur.take (n*size)=xs∧n≤c∧c≤maxLen:=by
 rcases h.2 with ⟨hv,h0⟩ | ⟨g,cap,cur,hv,hb,hg,hn',hc,hs,ht⟩
 ·omega
 ·exact ⟨g,cap,cur.toList,hv,hb,by simpa [Row] using hg,by simpa using hs,by simpa using ht,hn',hc⟩
theorem Zzh4 {w:World} {base size n c g i:Nat} {t:TypeId} {xs:List Value} (h:w.ownsRow base t size (.slice (some ⟨g,0,none⟩) n c) n xs) (hn:0 < n) (u:Value):
  (w.setCell ⟨g,i,none⟩ u).ownsRow base t size (.slice (some ⟨g,0,none⟩) n c) n (xs.set i u):=by
 obtain ⟨g',c',cur,e,hb,hr,hcl,hct,hnc,hcm⟩:=Zz5t h hn;injection e with e e2 e3;injection e with e;injection e with e _ _;subst e e3;refine ⟨by rw [List.length_set];exact h.1,.inr ⟨g,c,(cur.set i u).toArray,rfl,hb,hr.set i _,hnc,hcm,by simpa using hcl,?_⟩⟩;rw [← hct];simp only [List.toList_toArray,List.take_set]
end Wells
namespace Go.Proofs.YtnknjeipfjdjoaaGreatDoor
open Go.RowKit Wells
theorem OEs.edit {base:Nat} {w:World} {gO n c:Nat} {ts:List Value} {es:List Ent} {k j:Nat} (u:Value) (e':Ent) (tv':Value)
  (ho:w.ownsRow base 61 4 (.slice (some ⟨gO,0,none⟩) n c) n (entsC es ts)) (hl:es.length=n) (htl:ts.length=n)
  (hat:∀ i,i < n→i≠k→∃ A c,ts.getD i undef= .slice A (es.getD i default).tries.length c∧w.ownsRow base 3 1 (.slice A (es.getD i default).tries.length c) (es.getD i default).tries.length ((es.getD i default).tries.map iv))
  (hk:k < n) (hj:j < 4)
  (hcs:e'.cells tv'=((es.getD k default).cells (ts.getD k undef)).set j u) (hto:∃ A c',tv'= .slice A e'.tries.length c'∧w.ownsRow base 3 1 tv' e'.tries.length (e'.tries.map iv)):
  OEs base (w.setCell ⟨gO,k*4+j,none⟩ u) (.slice (some ⟨gO,0,none⟩) n c) (ts.set k tv') (es.set k e'):=by
 obtain ⟨g',c',cur,e,hb,hr,_⟩:=Zz5t ho (by omega);injection e with e _ _;injection e with e;injection e with e _ _;subst e;refine ⟨?_,by simp [hl,htl],fun i hi=> ?_⟩
 ·rw [Zz8w es ts k j u e' tv' (by omega) (by omega) hj hcs,List.length_set,hl]
  exact Zzh4 ho (by omega) u
 ·rw [List.length_set] at hi
  rw [Zz3o (by omega),Zzew (by omega)];split
  ·obtain ⟨A,c2,e1,e2⟩:=hto
   exact ⟨A,c2,e1,by rw [← e1];exact e2.far_ hr (by decide) _ u⟩
  ·rename_i hik
   obtain ⟨A,c2,e1,e2⟩:=hat i (by omega) hik;exact ⟨A,c2,e1,e2.far_ hr (by decide) _ u⟩
theorem OEs.blk {base:Nat} {w:World} {gO n c:Nat} {ts:List Value} {es:List Ent} (h:OEs base w (.slice (some ⟨gO,0,none⟩) n c) ts es) (hn:es.length=n) (h0:0 < n):∃ cur,Row w gO 61 cur∧base≤gO:=by
 have ho:=h.own;rw [hn] at ho;obtain ⟨g',c',cur,e,hb,hr,_⟩:=Zz5t ho h0;injection e with e _ _;injection e with e;injection e with e _ _;subst e;exact ⟨cur,hr,hb⟩
theorem _root_.Wells.Row.neT {w:World} {g g':Nat} {t t':TypeId} {cs cs':List Value} (h:Row w g t cs) (h':Row w g' t' cs') (hne:t≠t'):g≠g':=by
 rintro rfl;unfold Row at h h';rw [h] at h';injection h' with h';injection h' with _ e _;exact hne e
structure EM (base:Nat) (w:World) (g:Nat) (m:Mani) (Ad:Option Addr) (nd cd:Nat) (Ao:Option Addr) (no co:Nat) (ts:List Value):Prop where
 x:Row w g 28 [.int .i64 m.seq,.int .i64 m.next,.int .i64 m.P.K,.int .i64 m.P.H,.int .i64 m.P.S,.int .i64 m.extra,.slice Ad nd cd,.slice Ao no co]
 o:OM base w m Ad nd cd Ao no co ts
 dj:Dj ts (.slice Ad nd cd) no
section
variable {base:Nat} {w w':World} {g:Nat} {m:Mani} {Ad Ao:Option Addr} {nd cd no co:Nat} {ts:List Value}
theorem EM.below (h:EM base w g m Ad nd cd Ao no co ts) (hb:Below w.heap.size w w'):EM base w' g m Ad nd cd Ao no co ts:=⟨h.x.below hb h.x.lt,h.o.below hb,h.dj⟩
theorem EM.ts_len (h:EM base w g m Ad nd cd Ao no co ts):ts.length=no:=h.o.o.tl.trans h.o.ol
theorem EM.gO (h:EM base w g m Ad nd cd Ao no co ts) (h0:0 < no):∃ (gO:Nat) (cur:List Value),Ao=some ⟨gO,0,none⟩∧base≤gO∧Row w gO 61 cur∧no≤co∧co≤maxLen∧∀ i,i < no→∀ j,j < 4→cur[i*4+j]? =((m.objs.getD i default).cells (ts.getD i undef))[j]? :=by
 have ho:=h.o.o.own;rw [h.o.ol] at ho;obtain ⟨g',c',cur,e,hb,hr,hcl,hct,hnc,hcm⟩:=Zz5t ho h0;injection e with e e2 e3;subst e e3;refine ⟨g',cur,rfl,hb,hr,hnc,hcm,fun i hi j hj=> ?_⟩;rw [← Zz50 m.objs ts i h.o.o.tl.symm (by rw [h.o.ol];exact hi) j hj,← hct,List.getElem?_take_of_lt (by omega)]
theorem EM.tries (h:EM base w g m Ad nd cd Ao no co ts) {k:Nat} (hk:k < no):∃ A c,ts.getD k undef= .slice A (m.objs.getD k default).tries.length c∧w.ownsRow base 3 1 (.slice A (m.objs.getD k default).tries.length c) (m.objs.getD k default).tries.length ((m.objs.getD k default).tries.map iv):=h.o.o.at_ k (by rw [h.o.ol];exact hk)
theorem EM.lt (h:EM base w g m Ad nd cd Ao no co ts):(∀ i,i < no→∀ b,(ts.getD i undef).ownBlock=some b→b < w.heap.size)∧(∀ b,(Value.slice Ad nd cd).ownBlock=some b→b < w.heap.size)∧(∀ b,(Value.slice Ao no co).ownBlock=some b→b < w.heap.size):=
 ⟨fun i hi b hb=>by
  obtain ⟨A,c,e,ho⟩:=h.tries hi;rw [e] at hb;exact (ho.lt b hb).2,fun b hb=>(h.o.d.lt b hb).2,fun b hb=>(h.o.o.own.lt b hb).2⟩
theorem EM.setE {gO k j:Nat} (h:EM base w g m Ad nd cd (some ⟨gO,0,none⟩) no co ts) (hk:k < no) (hj:j < 4) (u:Value) (e':Ent) (tv':Value)
  (hcs:e'.cells tv'=((m.objs.getD k default).cells (ts.getD k undef)).set j u) (hto:∃ A c',tv'= .slice A e'.tries.length c'∧w.ownsRow base 3 1 tv' e'.tries.length (e'.tries.map iv))
  (htb:tv'.ownBlock=(ts.getD k undef).ownBlock∨tv'.ownBlock=none):
  EM base (w.setCell ⟨gO,k*4+j,none⟩ u) g { m with objs:=m.objs.set k e'} Ad nd cd (some ⟨gO,0,none⟩) no co (ts.set k tv'):=by
 have ho:=h.o.o.own;rw [h.o.ol] at ho;obtain ⟨_,cur,e,hb,hr,_⟩:=h.gO (by omega);injection e with e;injection e with e _ _;subst e;have hed:=OEs.edit (k:=k) (j:=j) u e' tv' ho h.o.ol h.ts_len (fun i hi _=>h.tries hi) hk hj hcs hto;refine ⟨h.x.far (p:=⟨gO,k*4+j,none⟩) (h.x.neT hr (by decide)) u,⟨h.o.d.far_ hr (by decide) _ u,h.o.dl,hed,by simp [h.o.ol]⟩,?_⟩;have hl:=h.lt;exact h.dj.swap h.ts_len hk hl.1 hl.2.1 (htb.imp id .inl)
end
end Go.Proofs.YtnknjeipfjdjoaaGreatDoor
namespace Wells
open Go Go.RowKit
structure Lt (N:Nat) (m:Mani):Prop where
 m64:M64 m
 nm:∀ e∈m.objs,e.name.length≤N
 tr:∀ e∈m.objs,e.tries.length≤N
 dl:m.drives.length≤N
 ol:m.objs.length≤N
theorem Lt.more {N N':Nat} {m:Mani} (h:Lt N m) (hn:N≤N'):Lt N' m:=⟨h.m64,fun e he=>ZnT (h.nm e he) hn,fun e he=>ZnT (h.tr e he) hn,ZnT h.dl hn,ZnT h.ol hn⟩
theorem Lt.setE {m:Mani} {k:Nat} {e':Ent} (h:Lt 1000 m) (h':i64 e'.obj∧i64 e'.len∧∀ z∈e'.tries,i64 z) (hn:e'.name.length≤2000) (ht:e'.tries.length≤2000):Lt 2000 { m with objs:=m.objs.set k e'}:=by
 have key:∀ e∈m.objs.set k e',e∈m.objs∨e=e':=fun e he=>List.mem_or_eq_of_mem_set he
 refine ⟨⟨h.m64.seq,h.m64.next,h.m64.K,h.m64.H,h.m64.S,h.m64.extra,h.m64.drives,fun e he=> ?_⟩,fun e he=> ?_,fun e he=> ?_,ZnT h.dl (by omega),by show (m.objs.set k e').length≤2000;rw [List.length_set];exact ZnT h.ol (by omega)⟩
 ·rcases key e he with h1 | rfl
  ·exact h.m64.objs e h1
  ·exact h'
 ·rcases key e he with h1 | rfl
  ·exact ZnT (h.nm e h1) (by omega)
  ·exact hn
 ·rcases key e he with h1 | rfl
  ·exact ZnT (h.tr e h1) (by omega)
  ·exact ht
end Wells
namespace Go.Proofs.YtnknjeipfjdjoaaGreatDoor
open Go.RowKit Wells
theorem OM.base {base base':Nat} {w:World} {m:Mani} {Ad Ao:Option Addr} {nd cd no co:Nat} {ts:List Value} (h:OM base w m Ad nd cd Ao no co ts) (hb:base'≤base):OM base' w m Ad nd cd Ao no co ts:=
 ⟨Zz0b h.d hb,h.dl,⟨Zz0b h.o.own hb,h.o.tl,fun i hi=>by
  obtain ⟨A,c,e,ho⟩:=h.o.at_ i hi;exact ⟨A,c,e,Zz0b ho hb⟩⟩,h.ol⟩
structure BS (w0 wx:World) (g3 g6:Nat) (m:Mani) (Ad:Option Addr) (nd cd:Nat) (Ao:Option Addr) (no co:Nat) (ts:List Value):Prop where
 x:Row wx g3 28 [.int .i64 m.seq,.int .i64 m.next,.int .i64 m.P.K,.int .i64 m.P.H,.int .i64 m.P.S,.int .i64 m.extra,.slice Ad nd cd,.slice Ao no co]
 o:OM w0.heap.size wx m Ad nd cd Ao no co ts
 z:Row wx g6 28 [.int .i64 0,.int .i64 0,.int .i64 0,.int .i64 0,.int .i64 0,.int .i64 0,.slice none 0 0,.slice none 0 0]
 be:Below w0.heap.size w0 wx
 lt:Lt 2000 m
structure EB (w0 wx:World) (g3 g6 N:Nat) (m:Mani) (Ad:Option Addr) (nd cd:Nat) (Ao:Option Addr) (no co:Nat) (ts:List Value):Prop where
 em:EM N wx g3 m Ad nd cd Ao no co ts
 z:Row wx g6 28 [.int .i64 0,.int .i64 0,.int .i64 0,.int .i64 0,.int .i64 0,.int .i64 0,.slice none 0 0,.slice none 0 0]
 be:Below w0.heap.size w0 wx
 hN:w0.heap.size≤N
 hg:w0.heap.size≤g3
 ne:g3≠g6
 lt:Lt 1000 m
section
variable {w0 wx wA wy:World} {g3 g6 N:Nat} {m:Mani} {Ad Ao:Option Addr} {nd cd no co:Nat} {ts:List Value}
theorem EB.below (h:EB w0 wx g3 g6 N m Ad nd cd Ao no co ts) (hb:Below wx.heap.size wx wA):EB w0 wA g3 g6 N m Ad nd cd Ao no co ts:=⟨h.em.below hb,h.z.below hb h.z.lt,h.be.trans (hb.mono h.be.size),h.hN,h.hg,h.ne,h.lt⟩
theorem EB.done (h:EB w0 wx g3 g6 N m Ad nd cd Ao no co ts):BS w0 wx g3 g6 m Ad nd cd Ao no co ts:=⟨h.em.x,h.em.o.base h.hN,h.z,h.be,h.lt.more (by omega)⟩
theorem EB.setE {gO k j:Nat} (h:EB w0 wx g3 g6 N m Ad nd cd (some ⟨gO,0,none⟩) no co ts) (hk:k < no) (hj:j < 4) (u:Value) (e':Ent) (tv':Value)
  (hcs:e'.cells tv'=((m.objs.getD k default).cells (ts.getD k undef)).set j u) (hto:∃ A c',tv'= .slice A e'.tries.length c'∧wx.ownsRow N 3 1 tv' e'.tries.length (e'.tries.map iv))
  (htb:tv'.ownBlock=(ts.getD k undef).ownBlock∨tv'.ownBlock=none) (h':i64 e'.obj∧i64 e'.len∧∀ z∈e'.tries,i64 z) (hn:e'.name.length≤2000) (ht:e'.tries.length≤2000):
  BS w0 (wx.setCell ⟨gO,k*4+j,none⟩ u) g3 g6 { m with objs:=m.objs.set k e'} Ad nd cd (some ⟨gO,0,none⟩) no co (ts.set k tv'):=by
 have he:=h.em.setE hk hj u e' tv' hcs hto htb;obtain ⟨_,cur,e,hb,hr,_⟩:=h.em.gO (by omega);injection e with e;injection e with e _ _;subst e;exact ⟨he.x,he.o.base h.hN,h.z.far (p:=⟨gO,k*4+j,none⟩) (h.z.neT hr (by decide)) u,h.be.setCell (p:=(⟨gO,k*4+j,none⟩:Addr)) (ZnT h.hN hb) u,h.lt.setE h' hn ht⟩
end
end Go.Proofs.YtnknjeipfjdjoaaGreatDoor
