/- PlayCells -/
import Derived.Deep.DeepCutAuto
import Derived.Deep.CutBlock
import Derived.Test.YtnknjeipfjdjoaaGreatDoorBScanTells32
import Derived.Test.YtnknjeipfjdjoaaGreatDoorBScanTells47
set_option maxHeartbeats 8000000
set_option maxRecDepth 20000
set_option linter.unusedSimpArgs false
set_option linter.unusedVariables false
namespace Wells
open Go Go.RowKit
theorem Zzed (q:Int) (p:List Byte) (j:Nat):(pageC q p j).length=64:=by
 unfold pageC;have h1:(pageH q j (pageN p) (pageD p j).length).length=7:=by unfold pageH;simp [Zz0r]
 have h2:=Zz3g p j;rw [Zz3r,if_pos];refine ⟨by omega,by omega,?_⟩;rw [List.length_append,h1];omega
theorem Zz5h (q:Int) (p:List Byte):∀ x∈pagesL q p,x.length=64:=by
 intro x hx;unfold pagesL at hx;obtain ⟨j,_,rfl⟩:=List.mem_map.1 hx;exact Zzed _ _ _
theorem Zzcc {m:Mani} (h:PlayM m):0 < (pagesL m.seq (pack m)).length:=by
 have hp:=h.may;rw [Zz0n];have:0 < (pack m).length:=by
  unfold pack;rw [if_pos hp];unfold packL packH;simp only [List.length_append,Zz0r];omega
 unfold pageN;omega
theorem Zzee {m:Mani} (h:PlayM m):m.P.may=true∧∀ e∈m.objs,0≤e.obj∧e.obj≤16777215∧e.tries.length≤8:=by
 have hm:=may_p h.may;refine ⟨hm.P,fun e he=> ?_⟩;obtain ⟨i,hi,rfl⟩:=List.getElem_of_mem he;have h1:=h.objs i hi;have h2:=Zzah hm hi;rw [ZgD,ZgE hi] at h1 h2;have h3:=h1.obj;have h4:=h.olen;exact ⟨by simp only [Option.getD_some] at h3;omega,by simp only [Option.getD_some] at h3;omega,h2.tlen⟩
end Wells
namespace Go.Proofs.YtnknjeipfjdjoaaGreatDoor
open Go.RowKit Wells
theorem Zze5 {x:Int} (h: -9223372036854775808≤x∧x≤9223372036854775807): -9223372036854775808≤x.tdiv 11∧x.tdiv 11≤9223372036854775807:=by
 have e:=Int.tdiv_eq_ediv (a:=x) (b:=11);have e1:Int.sign 11=1:=rfl;rw [e1] at e;rw [e];split <;> omega
theorem Zzgj {x:Int} (h: -9223372036854775808≤x∧x≤9223372036854775807): -9223372036854775808≤x.tdiv 4∧x.tdiv 4≤9223372036854775807:=by
 have e:=Int.tdiv_eq_ediv (a:=x) (b:=4);have e1:Int.sign 4=1:=rfl;rw [e1] at e;rw [e];split <;> omega
theorem Zz3j {w:World} {base n c g i:Nat} {l:List Byte} (h:w.ownsRow base 5 1 (.slice (some ⟨g,0,none⟩) n c) n (l.map bv8)) (hi:i < n):w.cell? ⟨g,i,none⟩=some (.int .u8 ((l.getD i 0).toNat:Int))∧w.frozen? ⟨g,i,none⟩=false∧base≤g:=by
 obtain ⟨g',c',cur,e,hb,hr,hcl,hct,hnc,hcm⟩:=Zz73 h (by omega);injection e with e e2 e3;injection e with e;injection e with e _ _;subst e e3;have hll:l.length=n:=by have:=h.1;simpa using this
 refine ⟨?_,hr.frozen i,hb⟩;rw [hr.cell,← List.getElem?_take_of_lt (show i < n*1 by omega),hct,List.getElem?_map,ZgD,ZgE (by omega)];rfl
theorem Zz91 {w:World} {base n c:Nat} {A:Option Addr} {xs:List Value} {t:TypeId} (h:w.ownsRow base t 1 (.slice A n c) n xs) (hn:0 < n):∃ g,A=some ⟨g,0,none⟩:=by
 obtain ⟨g',c',cur,e,_⟩:=Zz73 h hn;injection e with e e2 e3;exact ⟨g',e⟩
def CellsR (most:Nat) (w:World) (e:Ending) (w':World):Prop:=
 ∃ (A:Option Addr) (c:Nat) (vs:List Value) (ls:List (List Byte)) (n:Nat),e= .returned (.slice A n c)∧ls.length=n∧n≤most∧(∀ x∈ls,x.length=64)∧OBs w.heap.size w' (.slice A n c) vs ls∧Below w.heap.size w w'
theorem Zz66 (m:Mani) (B:Nat) (Ad Ao:Option Addr) (nd cd no co:Nat) (ts:List Value) (Al:Option Addr) (nl cl most:Nat) (l:List Int) (w:World) (h:RM w B m Ad nd cd Ao no co ts) (hB:B≤w.heap.size) (hp:PlayM m) (hl:Sl w B 1 Al nl (l.map (Value.int .i64))) (hnl:nl≤9223372036854775807) (hwf:∀ z∈l,-9223372036854775808≤z∧z≤9223372036854775807) (hmost:most≤1000):
  Calls Tryz.prog 8 #[m.val (.slice Ad nd cd) (.slice Ao no co),.slice Al nl cl,.int .i64 (most:Int)] w (CellsR most w):=by
 obtain ⟨ibs,hibs,hzb0,hzb1,hzb2⟩:=info_parts infoBs;obtain ⟨i0,hi,hz0,hz1,hz2⟩:=info_parts infoB;obtain ⟨h64,hnm⟩:=hp.m64;have hno0:m.objs.length=no:=h.o.len;have hno5:=hp.olen;have hno:no≤1000:=by omega
 obtain ⟨hPm,hobj⟩:=Zzee hp;have hseq:=hp.seq;obtain ⟨q,hq⟩:∃ q,max (1:Int) (m.seq - 1)=q:=⟨_,rfl⟩;have h64q:M64 { m with seq:=q}:=⟨by show i64 q;unfold i64;omega,h64.next,h64.K,h64.H,h64.S,h64.extra,h64.drives,h64.objs⟩;have HPG:=hid (Zzcc hp);have hll:l.length=nl:=by have:=hl.len;simpa using this
 have r0:=(Row.new w 28 #[.int .i64 m.seq,.int .i64 m.next,.int .i64 m.P.K,.int .i64 m.P.H,.int .i64 m.P.S,.int .i64 m.extra,.slice Ad nd cd,.slice Ao no co]).alloc (.cells #[.int .i64 q,.int .i64 m.next,.int .i64 m.P.K,.int .i64 m.P.H,.int .i64 m.P.S,.int .i64 m.extra,.slice Ad nd cd,.slice Ao no co] 28);have r1:=Row.new (w.alloc (.cells #[.int .i64 m.seq,.int .i64 m.next,.int .i64 m.P.K,.int .i64 m.P.H,.int .i64 m.P.S,.int .i64 m.extra,.slice Ad nd cd,.slice Ao no co] 28)) 28 #[.int .i64 q,.int .i64 m.next,.int .i64 m.P.K,.int .i64 m.P.H,.int .i64 m.P.S,.int .i64 m.extra,.slice Ad nd cd,.slice Ao no co]
 have hg1:(w.alloc (.cells #[.int .i64 m.seq,.int .i64 m.next,.int .i64 m.P.K,.int .i64 m.P.H,.int .i64 m.P.S,.int .i64 m.extra,.slice Ad nd cd,.slice Ao no co] 28)).heap.size=w.heap.size+1:=by simp
 rw [hg1] at r1;have hb3:Below w.heap.size w ((w.alloc (.cells #[.int .i64 m.seq,.int .i64 m.next,.int .i64 m.P.K,.int .i64 m.P.H,.int .i64 m.P.S,.int .i64 m.extra,.slice Ad nd cd,.slice Ao no co] 28)).alloc (.cells #[.int .i64 q,.int .i64 m.next,.int .i64 m.P.K,.int .i64 m.P.H,.int .i64 m.P.S,.int .i64 m.extra,.slice Ad nd cd,.slice Ao no co] 28)):=((Below.refl _ _).alloc (ZnR _) _).alloc (by simp) _;have HX:=hid r0;have HXq:=hid (show Row _ (w.heap.size+1) 28 [.int .i64 q,.int .i64 m.next,.int .i64 m.P.K,.int .i64 m.P.H,.int .i64 m.P.S,.int .i64 m.extra,.slice Ad nd cd,.slice Ao no co] from r1);have HB3:=hid hb3;have HM:=hid (h.below (hb3.mono hB))
 have HMq:=hid (show RM _ B { m with seq:=q} Ad nd cd Ao no co ts from ⟨HM.out.d,HM.out.dl,HM.out.dc,HM.out.o,HM.out.oc⟩);have HZ:=hid (ZnT hB hb3.size);have HLl:=hid (hl.below (hb3.mono hB));clear r0 r1 hb3 h hl hg1;unfold Mani.val;go_enter Tryz.func8,Tryz.ntmps8;go_upto_region 4 with fail;generalize (w.alloc (.cells #[.int .i64 m.seq,.int .i64 m.next,.int .i64 m.P.K,.int .i64 m.P.H,.int .i64 m.P.S,.int .i64 m.extra,.slice Ad nd cd,.slice Ao no co] 28)).alloc (.cells #[.int .i64 q,.int .i64 m.next,.int .i64 m.P.K,.int .i64 m.P.H,.int .i64 m.P.S,.int .i64 m.extra,.slice Ad nd cd,.slice Ao no co] 28)=w3 at*;clear hq
 refine Org.begin [] (fun w'=>Below w3.heap.size w3 w') [0,2,1,3,4,5] (by kernel_rfl) (Zz01 (Below.refl _ _) 1) (fun hS=> ?_);(refine Org.yA (v:= ?_) (SM.of hS) ?_ ?_;rotate_left;(focus (intro w hSw;(try dsimp only at hSw);have hr:=HX.out.below hSw HX.out.lt;obtain ⟨x0,x1,x2,x3,x4,x5,x6,x7⟩:=Row.c8 hr;refine Pure.val ?_;go_simp;(try with_reducible rfl);done));try simp only [aS,aN,aA,a0,a1]);(refine Org.yA (v:= ?_) (SM.of hS) ?_ ?_;rotate_left;(focus (intro w hSw;(try dsimp only at hSw);have hr:=HXq.out.below hSw HXq.out.lt;obtain ⟨x0,x1,x2,x3,x4,x5,x6,x7⟩:=Row.c8 hr;refine Pure.val ?_;go_simp;(try with_reducible rfl);done));try simp only [aS,aN,aA,a0,a1]);refine Org.gA fun K hK=> ?_
 go_simp;go_at_call 32;refine (Zz1g m B Ad Ao nd cd no co ts _ (HM.out.below (hS.mono HZ.out)) (ZnT HZ.out hS.size) h64 hnm).mono ?_;rintro e wpp ⟨Ap,cp,vsp,rfl,hop,hbp⟩;obtain ⟨np_,hnp⟩:∃ n,(pagesL (m:Mani).seq (pack m)).length=n:=⟨_,rfl⟩;rw [hnp] at hop ⊢;have HOp:=hid (hop.base hS.size);have HBp:=hid hbp;have HNp:=hid hnp;clear hop hbp hnp;go_wp2_with fail;refine hK.out _ _ (hS.trans (HBp.out.mono hS.size)) (fun hS2=> ?_);clear hK K hS;have hS:=hS2;clear hS2;try simp only [aS,aN,aA,a0,a1]
 refine Org.gA fun K hK=> ?_
 go_simp;go_at_call 32;refine (Zz1g { m with seq:=q} B Ad Ao nd cd no co ts _ (HMq.out.below (hS.mono HZ.out)) (ZnT HZ.out hS.size) h64q hnm).mono ?_;rintro e wpq ⟨Aq,cq,vsq,rfl,hoq,hbq⟩;obtain ⟨nq,hnq⟩:∃ n,(pagesL ({ m with seq:=q}:Mani).seq (pack { m with seq:=q})).length=n:=⟨_,rfl⟩;rw [hnq] at hoq ⊢;have HOq:=hid (hoq.base hS.size);have HBq:=hid hbq;have HNq:=hid hnq;clear hoq hbq hnq;go_wp2_with fail;refine hK.out _ _ (hS.trans (HBq.out.mono hS.size)) (fun hS2=> ?_);clear hK K hS;have hS:=hS2;clear hS2;try simp only [aS,aN,aA,a0,a1]
 refine Org.gA fun K hK=> ?_
 have HP:=hid (HOp.out.below HBq.out);have howp:=HP.out.own;have howq:=HOq.out.own;rw [HNp.out] at howp;rw [HNq.out] at howq;obtain ⟨np,hnp⟩:∃ np,np_+nq=np:=⟨_,rfl⟩;refine Zz0k (.tmp 21) (.tmp 23) 23 rfl w3.heap.size 33 ibs (.slice none 0 0) 1 24 Tryz.underlying23 hibs hzb0 hzb1 hzb2 rfl (by omega) (.slice Ap np_ cp) np_ vsp rfl howp _ Aq nq cq vsq rfl (Sl.own howq) (Zzb1 HOq.out) np hnp _ rfl (by have h1:=Zz18 m;have h2:=Zz18 { m with seq:=q};rw [HNp.out] at h1;rw [HNq.out] at h2;omega) (by have h1:=Zz18 m;have h2:=Zz18 { m with seq:=q};rw [HNp.out] at h1;rw [HNq.out] at h2;omega) hS.size ?_;rintro A9 c9 w9 ho9 hg9 _;have hps:=OBs.app HP.out HOq.out ho9 hg9
 have hb9:=Zz04 hS HP.out.own hg9 (ZnR _) hS.size;have HPS:=hid hps;have HB9:=hid hb9;have HNPQ:=hid hnp;clear hps hb9 ho9 hg9 howp howq hnp;refine hK.out _ _ HB9.out (fun hS2=> ?_);clear hK K hS;have hS:=hS2;clear hS2;try simp only [aS,aN,aA,a0,a1]
 (refine Org.yV (SM.of hS) ?_;try simp only [aS,aN,aA,a0,a1]);refine Org.done (by kernel_rfl) ?_;skip;clear hS;have HX9:=hid (HX.out.below HB9.out HX.out.lt);go_wp2_with fail;have hnp0:0 < np:=by have h1:=HPG.out;have h2:=HNPQ.out;rw [HNp.out] at h1;omega
 have hnp18:np≤18:=by have h1:=Zz18 m;have h2:=Zz18 { m with seq:=q};have h3:=HNPQ.out;rw [HNp.out] at h1;rw [HNq.out] at h2;omega
 have HLP:=hid (show (pagesL m.seq (pack m)++pagesL ({ m with seq:=q}:Mani).seq (pack { m with seq:=q})).length=np by rw [List.length_append,HNp.out,HNq.out,HNPQ.out]);obtain ⟨PL,hPL⟩:∃ PL,pagesL m.seq (pack m)++pagesL ({ m with seq:=q}:Mani).seq (pack { m with seq:=q})=PL:=⟨_,rfl⟩;have HP64:=hid (show ∀ x∈PL,x.length=64 from fun x hx=>by
  rw [← hPL] at hx;rcases List.mem_append.1 hx with h1 | h1
  ·exact Zz5h _ _ x h1
  ·exact Zz5h _ _ x h1)
 rw [hPL] at HPS HLP;have HPR:=hid (HPS.out.read HLP.out);have HM9:=hid (HM.out.below (HB9.out.mono HZ.out));have HZ9:=hid (ZnT HZ.out HB9.out.size);have HL9:=hid (HLl.out.below (HB9.out.mono HZ.out));have HBW:=hid (HB3.out.trans (HB9.out.mono HB3.out.size));clear HPS hPL HX HXq HB9 HM HMq HZ HLl HB3 HOp HOq HBp HBq HP HNp HNq HNPQ HPG h64q;obtain ⟨gm,hgm⟩:∃ gm,w.heap.size=gm:=⟨_,rfl⟩;have HGM:=hid hgm;rw [hgm] at HX9 ⊢;clear hgm
 go_loopw [10,11] (fun v i wr=>∃ (k ix:Nat) (A:Option Addr) (c:Nat) (vs:List Value) (outs:List (List Byte)),k≤most∧Hid (ix=2*k)∧v= .slice A k c∧i= .int .i64 (ix:Int)∧ix≤nl+1∧(k≤c∧c≤9223372036854775807)∧Hid (outs.length=k∧∀ x∈outs,x.length=64)∧OBs w9.heap.size wr (.slice A k c) vs outs∧Below w9.heap.size w9 wr) (fun v i _=>nl+2 - (intOf i).toNat)
 case atStart=>exact ⟨0,0,none,0, [], [],Nat.zero_le _,hid rfl,rfl,rfl,by omega,by omega,hid ⟨rfl,fun x hx=>by cases hx⟩,OBs.nil_ _ _,Below.refl _ _⟩
 case round=>
  obtain ⟨k,ix,A,c,vs,outs,hk,HIX,rfl,rfl,hix,hkc,HOUT,hobs,hbr⟩:=hrel;have HOBS:=hid hobs;have HBR:=hid hbr;clear hobs hbr;obtain ⟨i1,hi1⟩:∃ i1,ix+1=i1:=⟨_,rfl⟩;obtain ⟨i2,hi2⟩:∃ i2,ix+2=i2:=⟨_,rfl⟩;have hi1b:i1≤2001:=by have:=HIX.out;omega
  have hi2b:i2≤2002:=by have:=HIX.out;omega
  have e1:(ix:Int)+1=(i1:Int):=by omega
  have e1w:IntKind.i64.wrap ((ix:Int)+1)=(i1:Int):=by have:=HIX.out;rw [IntKind.wrap_i64];omega
  have e2w:IntKind.i64.wrap ((ix:Int)+2)=(i2:Int):=by have:=HIX.out;rw [IntKind.wrap_i64];omega
  by_cases hc1:(i1:Int) < (nl:Int)
  ·by_cases hc2:(k:Int) < (most:Int)
   ·have hi1n:i1 < nl:=by omega
    obtain ⟨bl,ol,rfl,hbl,hcl⟩:=(HL9.out.below (HBR.out.mono HZ9.out)).at_ (by omega);have hblr:bl < wr.heap.size:=by have:=HBR.out.size;have:=HZ9.out;omega
    obtain ⟨za,hza⟩:∃ z,l.getD ix 0=z:=⟨_,rfl⟩;obtain ⟨zb,hzb⟩:∃ z,l.getD i1 0=z:=⟨_,rfl⟩;have hixl:ix < l.length:=by omega
    have hi1l:i1 < l.length:=by omega
    have hza64: -9223372036854775808≤za∧za≤9223372036854775807:=by
     rw [← hza,ZgD,ZgE hixl];exact hwf _ (List.getElem_mem _)
    have hzb64: -9223372036854775808≤zb∧zb≤9223372036854775807:=by
     rw [← hzb,ZgD,ZgE hi1l];exact hwf _ (List.getElem_mem _)
    have ca:=hcl ix (.int .i64 za) (by rw [List.getElem?_map,ZgE hixl,← hza,ZgD,ZgE hixl];rfl);have cb:=hcl i1 (.int .i64 zb) (by rw [List.getElem?_map,ZgE hi1l,← hzb,ZgD,ZgE hi1l];rfl);have ca':wr.cell? ⟨bl,ol+ix,none⟩=some (.int .i64 za):=ca;have cb':wr.cell? ⟨bl,ol+i1,none⟩=some (.int .i64 zb):=cb;have HCA:=hid ca';have HCB:=hid cb';obtain ⟨q11,hq11⟩:∃ q,za.tdiv 11=q:=⟨_,rfl⟩;have hq11b:=Zze5 hza64;rw [hq11] at hq11b;have hixn:ix < nl:=by omega
    have e1x:IntKind.i64.wrap (i1:Int)=(i1:Int):=by rw [IntKind.wrap_i64];omega
    have e11x:IntKind.i64.wrap q11=q11:=by rw [IntKind.wrap_i64];omega
    have HXr:=hid (HX9.out.below HBR.out HX9.out.lt);have HZr:=hid (ZnT HZ9.out HBR.out.size);have HMr:=hid (HM9.out.below (HBR.out.mono HZ9.out));clear hcl hza hzb ca cb ca' cb' hixl hi1l;go_upto_region 9 with fail;have hHM:=HMr.out;refine Org.begin [] (fun w'=>Below wr.heap.size wr w') [0,1,2,3,4,5,6,7,8,9,10,11,12,13] (by kernel_rfl) (Zz01 (Below.refl _ _) 1) (fun hS=> ?_);(refine Org.yA (v:= ?_) (SM.of hS) ?_ ?_;rotate_left;(focus (intro w hSw;(try dsimp only at hSw);have hr:=HXr.out.below hSw HXr.out.lt;obtain ⟨x0,x1,x2,x3,x4,x5,x6,x7⟩:=Row.c8 hr;refine Pure.val ?_;go_simp;(try with_reducible rfl);done));try simp only [aS,aN,aA,a0,a1])
    iterate 4 (refine Org.yV (SM.of hS) ?_;try simp only [aS,aN,aA,a0,a1])
    (refine Org.yA (v:= ?_) (SM.of hS) ?_ ?_;rotate_left;(focus (intro w hSw;(try dsimp only at hSw);have cb:=(hSw.cell (p:=⟨bl,ol+i1,none⟩) hblr).trans HCB.out;refine Pure.val ?_;go_simp;(try with_reducible rfl);done));try simp only [aS,aN,aA,a0,a1]);iterate 3 (refine Org.yV (SM.of hS) ?_;try simp only [aS,aN,aA,a0,a1])
    (refine Org.yA (v:= ?_) (SM.of hS) ?_ ?_;rotate_left;(focus (intro w hSw;(try dsimp only at hSw);have ca:=(hSw.cell (p:=⟨bl,ol+ix,none⟩) hblr).trans HCA.out;refine Pure.val ?_;go_simp;(try with_reducible rfl);done));try simp only [aS,aN,aA,a0,a1]);(refine Org.yV (SM.of hS) ?_;try simp only [aS,aN,aA,a0,a1]);refine Org.gA fun K hK=> ?_
    go_simp;go_at_call 34;refine (Zza6 m B Ad Ao nd cd no co ts zb q11 _ (HMr.out.below (hS.mono HZr.out)) (ZnT HZr.out hS.size) hPm hno hobj hzb64 hq11b).mono ?_;rintro e wu ⟨r,Ar,nr,cr,rfl,hrm,hrl,hor,hbu⟩;have HOR:=hid hor;have HRM:=hid hrm;have HRL:=hid hrl;have HBU:=hid hbu;clear hor hrm hrl hbu;go_wp2_with fail;refine hK.out _ _ (hS.trans (HBU.out.mono hS.size)) (fun hS2=> ?_);clear hK K hS;have hS:=hS2;clear hS2;try simp only [aS,aN,aA,a0,a1]
    refine Org.gA fun K hK=> ?_
    go_simp;go_at_call 33;have hslr:Sl wu wu.heap.size 1 Ar nr (r.D.map bv8):=by
     have:=HOR.out
     unfold OB at this;rw [HRL.out] at this;exact Sl.own this
    refine (Zz20 wu.heap.size r Ar nr cr _ hslr (ZnR _)).mono ?_;rintro e wv ⟨vc,rfl,hoc,hbv⟩;obtain ⟨xc,hxc⟩:∃ x,putR r=x:=⟨_,rfl⟩;have hxl:xc.length=64:=by rw [← hxc];exact Zzh6 HRM.out
    rw [hxc] at hoc;obtain ⟨Ac,cc,rfl,hc1',hc2',_⟩:=Zz0h hoc;rw [hxl] at hc1' ⊢;have hoc2:=Zz0b hoc hS.size;rw [hxl] at hoc2;have HOC:=hid hoc2;have HXL:=hid hxl;have HBV:=hid (hS.trans (hbv.mono hS.size));clear hoc hoc2 hslr hxc hxl hbv;go_wp2_with fail;refine hK.out _ _ HBV.out (fun hS2=> ?_);clear hK K hS;have hS:=hS2;clear hS2;try simp only [aS,aN,aA,a0,a1]
    (refine Org.yV (SM.of hS) ?_;try simp only [aS,aN,aA,a0,a1]);refine Org.done (by kernel_rfl) ?_;skip;clear hS;obtain ⟨xs,hxs⟩:∃ x,za % 11=x:=⟨_,rfl⟩;have hxs0:0≤xs∧xs≤10:=by omega
    have HXS:=hid hxs;clear hxs;have ca:=(HBV.out.cell (p:=⟨bl,ol+ix,none⟩) hblr).trans HCA.out;go_wp2_with fail;refine (Zz07 za 11 _ hza64.1 hza64.2 (by omega) (by omega)).mono ?_;rintro e w' ⟨rfl,rfl⟩;rw [HXS.out];clear ca;go_upto_block 2 with fail
    go_cut [12] (fun cv wx=>∃ (A5:Option Addr) (c5:Nat) (x5:List Byte),cv= .slice A5 64 c5∧Hid (x5.length=64)∧wx.ownsRow wr.heap.size 5 1 (.slice A5 64 c5) 64 (x5.map bv8)∧Below wr.heap.size wr wx)
    case first=>
     have hcase:(xs=0∨xs=1∨xs=2)∨xs=3∨xs=4∨xs=5∨(6≤xs∧¬ xs=0∧¬ xs=1∧¬ xs=2∧¬ xs=3∧¬ xs=4∧¬ xs=5):=by omega
     rcases hcase with (rfl | rfl | rfl) | rfl | rfl | rfl | ⟨h6,n0,n1,n2,n3,n4,n5⟩
     ·have cb:=(HBV.out.cell (p:=⟨bl,ol+i1,none⟩) hblr).trans HCB.out
      obtain ⟨zi,hzi,hzin⟩:∃ zi:Nat,zb % (np:Int)=(zi:Int)∧zi < np:=⟨(zb % (np:Int)).toNat,by have:=Int.emod_nonneg zb (show (np:Int)≠0 by omega);omega,by have h1:=Int.emod_nonneg zb (show (np:Int)≠0 by omega);have h2:=Int.emod_lt_of_pos zb (show (0:Int) < np by omega);omega⟩;have hzin':(zi:Int) < (np:Int):=by omega
      have HZI:=hid hzi;obtain ⟨bp,op,Ax,cx,eA,hbp,hcellp,hx1,hx2,hslx⟩:=(HPR.out.below (HBR.out.trans (HBV.out.mono HBR.out.size))).get hzin;obtain ⟨xp,hxp⟩:∃ x,PL.getD zi []=x:=⟨_,rfl⟩;rw [hxp] at hcellp hslx hx1;have hxp64:xp.length=64:=by rw [← hxp,ZgD,ZgE (by rw [HLP.out];exact hzin)];exact HP64.out _ (List.getElem_mem _)
      rw [hxp64] at hcellp hslx hx1;subst eA;have HSX:=hid hslx;have HXP:=hid hxp64;have HSZ:=hid (show w9.heap.size≤wv.heap.size from ZnT HBR.out.size HBV.out.size);clear hslx hxp hxp64 hzi;go_wp2_with fail;refine (Zz07 zb (np:Int) _ hzb64.1 hzb64.2 (by omega) (by omega)).mono ?_;rintro e w' ⟨rfl,rfl⟩;rw [HZI.out]
      go_wp2_with ((with_reducible show wpList _ _ _ (⟨some 73,_,_,_,_,_⟩::_) _ _);go_must (refine Zz03 rfl (.const (.slice none 0 0)) (.tmp 72) 33 rfl wr.heap.size 5 i0 (.int .u8 0) 1 1 Tryz.underlying33 hi hz0 hz1 hz2 rfl (by omega) (.slice none 0 0) 0 [] rfl (World.ownsRow_nil _ _ _ _) w9.heap.size Ax 64 cx _ rfl HSX.out (Zz0v _) 64 rfl (xp.map bv8) rfl (by omega) (by omega) HBV.out.size ?_);intro A6 c6 w6 ho6 hg6 _)
      have hb6:=Zz04 HBV.out (World.ownsRow_nil wv wr.heap.size 5 1) hg6 (ZnR _) HBV.out.size;go_meet
      exact ⟨A6,c6,xp,rfl,HXP.out,ho6,hb6⟩
     ·have cb:=(HBV.out.cell (p:=⟨bl,ol+i1,none⟩) hblr).trans HCB.out
      obtain ⟨zi,hzi,hzin⟩:∃ zi:Nat,zb % (np:Int)=(zi:Int)∧zi < np:=⟨(zb % (np:Int)).toNat,by have:=Int.emod_nonneg zb (show (np:Int)≠0 by omega);omega,by have h1:=Int.emod_nonneg zb (show (np:Int)≠0 by omega);have h2:=Int.emod_lt_of_pos zb (show (0:Int) < np by omega);omega⟩;have hzin':(zi:Int) < (np:Int):=by omega
      have HZI:=hid hzi;obtain ⟨bp,op,Ax,cx,eA,hbp,hcellp,hx1,hx2,hslx⟩:=(HPR.out.below (HBR.out.trans (HBV.out.mono HBR.out.size))).get hzin;obtain ⟨xp,hxp⟩:∃ x,PL.getD zi []=x:=⟨_,rfl⟩;rw [hxp] at hcellp hslx hx1;have hxp64:xp.length=64:=by rw [← hxp,ZgD,ZgE (by rw [HLP.out];exact hzin)];exact HP64.out _ (List.getElem_mem _)
      rw [hxp64] at hcellp hslx hx1;subst eA;have HSX:=hid hslx;have HXP:=hid hxp64;have HSZ:=hid (show w9.heap.size≤wv.heap.size from ZnT HBR.out.size HBV.out.size);clear hslx hxp hxp64 hzi;go_wp2_with fail;refine (Zz07 zb (np:Int) _ hzb64.1 hzb64.2 (by omega) (by omega)).mono ?_;rintro e w' ⟨rfl,rfl⟩;rw [HZI.out]
      go_wp2_with ((with_reducible show wpList _ _ _ (⟨some 73,_,_,_,_,_⟩::_) _ _);go_must (refine Zz03 rfl (.const (.slice none 0 0)) (.tmp 72) 33 rfl wr.heap.size 5 i0 (.int .u8 0) 1 1 Tryz.underlying33 hi hz0 hz1 hz2 rfl (by omega) (.slice none 0 0) 0 [] rfl (World.ownsRow_nil _ _ _ _) w9.heap.size Ax 64 cx _ rfl HSX.out (Zz0v _) 64 rfl (xp.map bv8) rfl (by omega) (by omega) HBV.out.size ?_);intro A6 c6 w6 ho6 hg6 _)
      have hb6:=Zz04 HBV.out (World.ownsRow_nil wv wr.heap.size 5 1) hg6 (ZnR _) HBV.out.size;go_meet
      exact ⟨A6,c6,xp,rfl,HXP.out,ho6,hb6⟩
     ·have cb:=(HBV.out.cell (p:=⟨bl,ol+i1,none⟩) hblr).trans HCB.out
      obtain ⟨zi,hzi,hzin⟩:∃ zi:Nat,zb % (np:Int)=(zi:Int)∧zi < np:=⟨(zb % (np:Int)).toNat,by have:=Int.emod_nonneg zb (show (np:Int)≠0 by omega);omega,by have h1:=Int.emod_nonneg zb (show (np:Int)≠0 by omega);have h2:=Int.emod_lt_of_pos zb (show (0:Int) < np by omega);omega⟩;have hzin':(zi:Int) < (np:Int):=by omega
      have HZI:=hid hzi;obtain ⟨bp,op,Ax,cx,eA,hbp,hcellp,hx1,hx2,hslx⟩:=(HPR.out.below (HBR.out.trans (HBV.out.mono HBR.out.size))).get hzin;obtain ⟨xp,hxp⟩:∃ x,PL.getD zi []=x:=⟨_,rfl⟩;rw [hxp] at hcellp hslx hx1;have hxp64:xp.length=64:=by rw [← hxp,ZgD,ZgE (by rw [HLP.out];exact hzin)];exact HP64.out _ (List.getElem_mem _)
      rw [hxp64] at hcellp hslx hx1;subst eA;have HSX:=hid hslx;have HXP:=hid hxp64;have HSZ:=hid (show w9.heap.size≤wv.heap.size from ZnT HBR.out.size HBV.out.size);clear hslx hxp hxp64 hzi;go_wp2_with fail;refine (Zz07 zb (np:Int) _ hzb64.1 hzb64.2 (by omega) (by omega)).mono ?_;rintro e w' ⟨rfl,rfl⟩;rw [HZI.out]
      go_wp2_with ((with_reducible show wpList _ _ _ (⟨some 73,_,_,_,_,_⟩::_) _ _);go_must (refine Zz03 rfl (.const (.slice none 0 0)) (.tmp 72) 33 rfl wr.heap.size 5 i0 (.int .u8 0) 1 1 Tryz.underlying33 hi hz0 hz1 hz2 rfl (by omega) (.slice none 0 0) 0 [] rfl (World.ownsRow_nil _ _ _ _) w9.heap.size Ax 64 cx _ rfl HSX.out (Zz0v _) 64 rfl (xp.map bv8) rfl (by omega) (by omega) HBV.out.size ?_);intro A6 c6 w6 ho6 hg6 _)
      have hb6:=Zz04 HBV.out (World.ownsRow_nil wv wr.heap.size 5 1) hg6 (ZnR _) HBV.out.size;go_meet
      exact ⟨A6,c6,xp,rfl,HXP.out,ho6,hb6⟩
     ·obtain ⟨z4,hz4⟩:∃ z,zb % 4=z:=⟨_,rfl⟩
      have hz4b:0≤z4∧z4≤3:=by omega
      obtain ⟨z5,hz5⟩:∃ z,1+z4=z:=⟨_,rfl⟩;have hz5b:1≤z5∧z5≤4:=by omega
      have e5x:IntKind.i64.wrap (1+z4)=z5:=by rw [IntKind.wrap_i64];omega
      have e5y:IntKind.i64.wrap z5=z5:=by rw [IntKind.wrap_i64];omega
      obtain ⟨q4,hq4⟩:∃ q,zb.tdiv 4=q:=⟨_,rfl⟩;have hq4b:=Zzgj hzb64;rw [hq4] at hq4b;have e4x:IntKind.i64.wrap q4=q4:=by rw [IntKind.wrap_i64];omega
      obtain ⟨n56,hn56,hn56b⟩:∃ n:Nat,q4 % 56=(n:Int)∧n≤55:=⟨(q4 % 56).toNat,by omega,by omega⟩;have HZ4:=hid hz4;have HN56:=hid hn56;have HCAv:=hid ((HBV.out.cell (p:=⟨bl,ol+ix,none⟩) hblr).trans HCA.out);have HCBv:=hid ((HBV.out.cell (p:=⟨bl,ol+i1,none⟩) hblr).trans HCB.out);have hblv:bl < wv.heap.size:=Nat.lt_of_lt_of_le hblr HBV.out.size;clear hz4 hn56;go_upto_region 16 with fail;refine Org.begin [] (fun w'=>Below wv.heap.size wv w') [0,1,2,3,4,5,6,7,8,9,10,11,12,13,14,15,16,17,18,19,20,21,22] (by kernel_rfl) (Zz01 (Below.refl _ _) 1) (fun hS=> ?_);iterate 5 (refine Org.yV (SM.of hS) ?_;try simp only [aS,aN,aA,a0,a1])
      (refine Org.yA (v:= ?_) (SM.of hS) ?_ ?_;rotate_left;(focus (intro w hSw;(try dsimp only at hSw);have cb:=(hSw.cell (p:=⟨bl,ol+i1,none⟩) hblv).trans HCBv.out;refine Pure.val ?_;go_simp;(try with_reducible rfl);done));try simp only [aS,aN,aA,a0,a1]);(refine Org.yA (v:= ?_) (SM.of hS) ?_ ?_;rotate_left;(focus (intro w hSw;(try dsimp only at hSw);refine Pure.call 27 #[.int .i64 zb,.int .i64 4] (by go_simp;first | done | rfl) ?_;refine (Zz07 (zb) 4 _ (by omega) (by omega) (by omega) (by omega)).mono ?_;rintro e w' ⟨rfl,rfl⟩;rw [HZ4.out];refine ⟨?_,rfl⟩;with_reducible rfl));try simp only [aS,aN,aA,a0,a1]);iterate 6 (refine Org.yV (SM.of hS) ?_;try simp only [aS,aN,aA,a0,a1])
      (refine Org.yA (v:= ?_) (SM.of hS) ?_ ?_;rotate_left;(focus (intro w hSw;(try dsimp only at hSw);have cb:=(hSw.cell (p:=⟨bl,ol+i1,none⟩) hblv).trans HCBv.out;refine Pure.val ?_;go_simp;(try with_reducible rfl);done));try simp only [aS,aN,aA,a0,a1]);(refine Org.yV (SM.of hS) ?_;try simp only [aS,aN,aA,a0,a1]);(refine Org.yA (v:= ?_) (SM.of hS) ?_ ?_;rotate_left;(focus (intro w hSw;(try dsimp only at hSw);refine Pure.call 27 #[.int .i64 q4,.int .i64 56] (by go_simp;first | done | rfl) ?_;refine (Zz07 (q4) 56 _ (by omega) (by omega) (by omega) (by omega)).mono ?_;rintro e w' ⟨rfl,rfl⟩;rw [HN56.out];refine ⟨?_,rfl⟩;with_reducible rfl));try simp only [aS,aN,aA,a0,a1])
      iterate 3 (refine Org.yV (SM.of hS) ?_;try simp only [aS,aN,aA,a0,a1])
      (refine Org.yA (v:= ?_) (SM.of hS) ?_ ?_;rotate_left;(focus (intro w hSw;(try dsimp only at hSw);have ca:=(hSw.cell (p:=⟨bl,ol+ix,none⟩) hblv).trans HCAv.out;refine Pure.val ?_;go_simp;(try with_reducible rfl);done));try simp only [aS,aN,aA,a0,a1]);refine Org.gA fun K hK=> ?_
      go_simp;go_at_call 36;refine (Zzas n56 (n56:Int) za _ rfl (by omega) hza64).mono ?_;rintro e wd ⟨Ad',cd',ld,rfl,hld,hod,hbd⟩;have HLD:=hid hld;have HOD:=hid hod;have HBD:=hid hbd;clear hld hod hbd;go_wp2_with fail;refine hK.out _ _ (hS.trans (HBD.out.mono hS.size)) (fun hS2=> ?_);clear hK K hS;have hS:=hS2;clear hS2;try simp only [aS,aN,aA,a0,a1]
      refine Org.gA fun K hK=> ?_
      go_simp;go_at_call 35;have hsld:Sl wd wd.heap.size 1 Ad' n56 (ld.map bv8):=by
       have:=HOD.out
       unfold OB at this;rw [HLD.out] at this;exact Sl.own this
      refine (Zz2r z5 wd.heap.size Ad' ld n56 cd' _ (by omega) hsld (ZnR _) (by omega)).mono ?_;rintro e we ⟨ve,rfl,hoe,hbe⟩;have hxe:(cellL z5 ld).length=64:=by rw [Zz3r,if_pos ⟨by omega,by omega,by rw [HLD.out];omega⟩]
      obtain ⟨xe,hxee⟩:∃ x,cellL z5 ld=x:=⟨_,rfl⟩;rw [hxee] at hxe hoe;obtain ⟨Ae,ce,rfl,he1,he2,_⟩:=Zz0h hoe;rw [hxe] at he1 ⊢;have hoe2:=Zz0b hoe (ZnT HBV.out.size hS.size);rw [hxe] at hoe2;have HOE:=hid hoe2;have HXE:=hid hxe;have HBE:=hid (hS.trans (hbe.mono hS.size));clear hoe hoe2 hsld hxee hxe hbe;go_wp2_with fail;refine hK.out _ _ HBE.out (fun hS2=> ?_);clear hK K hS;have hS:=hS2;clear hS2;try simp only [aS,aN,aA,a0,a1]
      (refine Org.yV (SM.of hS) ?_;try simp only [aS,aN,aA,a0,a1]);refine Org.done (by kernel_rfl) ?_;skip;clear hS;clear e5x e5y e4x hq4 hz5;go_wp2_with fail;go_meet
      exact ⟨Ae,ce,xe,rfl,HXE.out,HOE.out,HBV.out.trans (HBE.out.mono HBV.out.size)⟩
     ·obtain ⟨gx,rfl⟩:=Zz91 HOC.out (by omega)
      obtain ⟨zi,hzi,hzin⟩:∃ zi:Nat,zb % 64=(zi:Int)∧zi < 64:=⟨(zb % 64).toNat,by omega,by omega⟩;have hzi4:(zi:Int) < 64:=by omega
      have ezi:IntKind.i64.wrap (zi:Int)=(zi:Int):=by rw [IntKind.wrap_i64];omega
      obtain ⟨z255,hz255⟩:∃ z,q11 % 255=z:=⟨_,rfl⟩;have hz255b:0≤z255∧z255≤254:=by omega
      obtain ⟨sb,hsb⟩:∃ sb:Byte,1+z255=((sb:Byte).toNat:Int):=⟨BitVec.ofNat 8 (1+z255).toNat,by rw [BitVec.toNat_ofNat];omega⟩;have hsl:=sb.isLt;have e1s:IntKind.i64.wrap (1+z255)=(sb.toNat:Int):=by rw [IntKind.wrap_i64];omega
      have e1t:IntKind.u8.wrap (sb.toNat:Int)=(sb.toNat:Int):=by rw [IntKind.wrap_u8];omega
      obtain ⟨bx,hbx⟩:∃ b,xc.getD zi 0=b:=⟨_,rfl⟩;have hxor:bits .xor .u8 (bx.toNat:Int) (sb.toNat:Int)=((bx ^^^ sb).toNat:Int):=x8s bx sb;have HZI:=hid hzi;have HZ2:=hid hz255;have HXX:=hid (show (xc.set zi (bx ^^^ sb)).length=64 by rw [List.length_set];exact HXL.out);have HCAv:=hid ((HBV.out.cell (p:=⟨bl,ol+ix,none⟩) hblr).trans HCA.out);have HCBv:=hid ((HBV.out.cell (p:=⟨bl,ol+i1,none⟩) hblr).trans HCB.out);have hbv8:bv8 (bx ^^^ sb)= .int .u8 ((bx ^^^ sb).toNat:Int):=rfl;clear hzi hz255 hsb;have hgx:=(Zz3j HOC.out (i:=0) (by omega)).2.2;have hblg:bl < wr.heap.size:=hblr;go_upto_region 18 with fail
      refine Org.begin [21] (fun w'=>w'.ownsRow wr.heap.size 5 1 (.slice (some ⟨gx,0,none⟩) 64 cc) 64 (xc.map bv8)∧Below wr.heap.size wr w') [0,1,2,3,4,5,6,7,8,9,10,11,12,13,14,15,16,17,18,19,20,21] (by kernel_rfl) (⟨HOC.out,Zz01 HBV.out 1⟩) (fun hS=> ?_);iterate 6 (refine Org.yV (SM.of hS) ?_;try simp only [aS,aN,aA,a0,a1])
      (refine Org.yA (v:= ?_) (SM.of hS) ?_ ?_;rotate_left;(focus (intro w hSw;(try dsimp only at hSw);have cb:=(hSw.2.cell (p:=⟨bl,ol+i1,none⟩) hblr).trans HCB.out;refine Pure.val ?_;go_simp;(try with_reducible rfl);done));try simp only [aS,aN,aA,a0,a1]);(refine Org.yA (v:= ?_) (SM.of hS) ?_ ?_;rotate_left;(focus (intro w hSw;(try dsimp only at hSw);refine Pure.call 27 #[.int .i64 zb,.int .i64 64] (by go_simp;first | done | rfl) ?_;refine (Zz07 (zb) 64 _ (by omega) (by omega) (by omega) (by omega)).mono ?_;rintro e w' ⟨rfl,rfl⟩;rw [HZI.out];refine ⟨?_,rfl⟩;with_reducible rfl));try simp only [aS,aN,aA,a0,a1]);(refine Org.yV (SM.of hS) ?_;try simp only [aS,aN,aA,a0,a1])
      (refine Org.yA (v:= ?_) (SM.of hS) ?_ ?_;rotate_left;(focus (intro w hSw;(try dsimp only at hSw);have kb:=(Zz3j hSw.1 (i:=zi) (by omega)).1;rw [hbx] at kb;refine Pure.val ?_;go_simp;(try with_reducible rfl);done));try simp only [aS,aN,aA,a0,a1]);iterate 4 (refine Org.yV (SM.of hS) ?_;try simp only [aS,aN,aA,a0,a1])
      (refine Org.yA (v:= ?_) (SM.of hS) ?_ ?_;rotate_left;(focus (intro w hSw;(try dsimp only at hSw);have ca:=(hSw.2.cell (p:=⟨bl,ol+ix,none⟩) hblr).trans HCA.out;refine Pure.val ?_;go_simp;(try with_reducible rfl);done));try simp only [aS,aN,aA,a0,a1]);(refine Org.yV (SM.of hS) ?_;try simp only [aS,aN,aA,a0,a1]);(refine Org.yA (v:= ?_) (SM.of hS) ?_ ?_;rotate_left;(focus (intro w hSw;(try dsimp only at hSw);refine Pure.call 27 #[.int .i64 q11,.int .i64 255] (by go_simp;first | done | rfl) ?_;refine (Zz07 (q11) 255 _ (by omega) (by omega) (by omega) (by omega)).mono ?_;rintro e w' ⟨rfl,rfl⟩;rw [HZ2.out];refine ⟨?_,rfl⟩;with_reducible rfl));try simp only [aS,aN,aA,a0,a1])
      iterate 4 (refine Org.yV (SM.of hS) ?_;try simp only [aS,aN,aA,a0,a1])
      refine Org.mark (p:=21) rfl (by kernel_rfl) (by kernel_rfl) (by kernel_rfl) (by kernel_rfl) (fun K hK=> ?_);have hcb:=Zz3j hS.1 (i:=zi) (by omega);have kb:=hcb.1;have fb:=hcb.2.1;rw [hbx] at kb;have hset:=Zzfj (i:=zi) hS.1 (by omega) (bv8 (bx ^^^ sb));rw [← List.map_set] at hset;have HSET:=hid hset;have HBX:=hid (hS.2.setCell (p:=(⟨gx,zi,none⟩:Addr)) (by have:=hcb.2.2;omega) (bv8 (bx ^^^ sb)));clear hcb hset;go_simp;refine hK.out _ _ ?_;clear hK K hS;try simp only [aS,aN,aA,a0,a1]
      refine Org.done (by kernel_rfl) ?_;skip;go_wp2_with fail;go_meet
      exact ⟨_,_,xc.set zi (bx ^^^ sb),rfl,HXX.out,HSET.out,HBX.out⟩
     ·obtain ⟨gx,rfl⟩:=Zz91 HOC.out (by omega)
      obtain ⟨zi,hzi,hzin⟩:∃ zi:Nat,zb % 64=(zi:Int)∧zi < 64:=⟨(zb % 64).toNat,by omega,by omega⟩;have HZI:=hid hzi;have cb:=(HBV.out.cell (p:=⟨bl,ol+i1,none⟩) hblr).trans HCB.out;clear hzi;go_wp2_with fail;refine (Zz07 zb 64 _ hzb64.1 hzb64.2 (by omega) (by omega)).mono ?_;rintro e w' ⟨rfl,rfl⟩;rw [HZI.out];clear cb;go_wp2_with fail;go_loopw [13] (fun v w7=>∃ (j:Nat) (x:List Byte),j≤64∧v= .int .i64 (j:Int)∧Hid (x.length=64)∧Hid (w7.ownsRow wr.heap.size 5 1 (.slice (some ⟨gx,0,none⟩) 64 cc) 64 (x.map bv8))∧Hid (Below wr.heap.size wr w7)) (fun v _=>64 - (intOf v).toNat)
      case atStart=>exact ⟨zi,xc,by omega,rfl,HXL,HOC,HBV⟩
      case round=>
       obtain ⟨j,x,hj,rfl,HXJ,HOJ,HBJ⟩:=hrel;by_cases hlt:j < 64
       ·have hlt':(j:Int) < 64:=by omega
        have hcb:=Zz3j HOJ.out hlt;have kb:=hcb.1;have fb:=hcb.2.1;have hset:=Zzfj (i:=j) HOJ.out (by omega) (bv8 0#8);rw [← List.map_set] at hset;have hb0:bv8 0#8= .int .u8 0:=rfl;rw [hb0] at hset;have HSET:=hid hset;have HXS:=hid (show (x.set j 0#8).length=64 by rw [List.length_set];exact HXJ.out);have HBX:=hid (HBJ.out.setCell (p:=(⟨gx,j,none⟩:Addr)) (by have:=hcb.2.2;omega) (.int .u8 0));clear hcb hset hb0;go_wp2_with fail;go_roundw
        case rel=>exact ⟨j+1,x.set j 0#8,by omega,by go_num,HXS,HSET,HBX⟩
        case measure=>simp [intOf];omega
       ·have hlt':¬ (j:Int) < 64:=by omega
        go_wp2_with fail;go_meet
        exact ⟨_,_,x,rfl,HXJ.out,HOJ.out,HBJ.out⟩
     ·go_wp2_with fail
      go_meet
      exact ⟨Ac,cc,xc,rfl,HXL.out,HOC.out,HBV.out⟩
    case rest=>
     obtain ⟨A5,c5,x5,rfl,HX5,ho5,hb5⟩:=hcut;generalize wc=w5 at*;have HO5:=hid ho5;have HB5:=hid hb5;have hb6:Below w5.heap.size w5 (w5.alloc (.cells #[.slice A5 64 c5] 33)):=(Below.refl _ _).alloc (ZnR _) _;have R6:=hid (Row.new w5 33 #[.slice A5 64 c5]);have HO6:=hid (Zz2u HO5.out hb6);have HB6:=hid (HBR.out.trans ((HB5.out.trans (hb6.mono HB5.out.size)).mono HBR.out.size));have HOB6:=hid (HOBS.out.below (HB5.out.trans (hb6.mono HB5.out.size)));have HLT:=hid HOUT.out.1;clear ho5 hb5 hb6
     go_wp2_with ((with_reducible show wpList _ _ _ (⟨some 140,_,_,_,_,_⟩::_) _ _);go_must (refine Zz03 rfl (.tmp 137) (.tmp 139) 23 rfl w9.heap.size 33 ibs (.slice none 0 0) 1 24 Tryz.underlying23 hibs hzb0 hzb1 hzb2 rfl (by omega) (.slice A k c) k vs rfl (by have:=HOB6.out.own;rwa [HLT.out] at this) (w5.heap.size+1) (some ⟨w5.heap.size,0,none⟩) 1 1 _ rfl (R6.out.sl (m:=1) (by omega) (ZnR _)) (by intro u hu;simp at hu;subst hu;rfl) (k+1) rfl _ rfl (by omega) (by omega) HB6.out.size ?_);intro A9' c9' w9' ho9 hg9 _)
     have hps:=OBs.push HOB6.out (x:=x5) (by unfold OB;rw [HX5.out];exact Zz0b HO6.out HBR.out.size) (by rw [HLT.out];exact ho9) hg9;have hb9:=Zz04 HB6.out HOB6.out.own hg9 (ZnR _) HB6.out.size;have hc9:=Zz14 ho9;have HPS:=hid hps;have HB9':=hid hb9;clear hps hb9 ho9 hg9;go_roundw
     case rel=>exact ⟨k+1,i2,A9',c9',_,outs++ [x5],by omega,hid (by have:=HIX.out;omega),rfl,by first | rfl | go_num,by omega,hc9,hid ⟨by rw [List.length_append,HOUT.out.1];rfl,fun x hx=>by
      rcases List.mem_append.1 hx with h1 | h1
      ·exact HOUT.out.2 x h1
      ·simp only [List.mem_singleton] at h1;rw [h1];exact HX5.out⟩,HPS.out,HB9'.out⟩
     case measure=>simp [intOf];omega
   ·have hc2':¬ (k:Int) < (most:Int):=hc2
    go_wp2_with fail;go_ret
    exact ⟨A,c,vs,outs,k,rfl,HOUT.out.1,hk,HOUT.out.2,HOBS.out.base HBW.out.size,HBW.out.trans (HBR.out.mono HBW.out.size)⟩
  ·have hc1':¬ (i1:Int) < (nl:Int):=hc1
   go_wp2_with fail;go_ret
   exact ⟨A,c,vs,outs,k,rfl,HOUT.out.1,hk,HOUT.out.2,HOBS.out.base HBW.out.size,HBW.out.trans (HBR.out.mono HBW.out.size)⟩
end Go.Proofs.YtnknjeipfjdjoaaGreatDoor
