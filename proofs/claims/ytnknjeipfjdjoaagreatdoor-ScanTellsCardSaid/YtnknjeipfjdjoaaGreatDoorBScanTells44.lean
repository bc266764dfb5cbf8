/- PlayMani -/
import Derived.Deep.DeepCutAuto
import Derived.Deep.CutBlock
import Derived.Test.YtnknjeipfjdjoaaGreatDoorBScanTells32
import Derived.Test.YtnknjeipfjdjoaaGreatDoorBScanTells36
import Derived.Test.YtnknjeipfjdjoaaGreatDoorBScanTells41
set_option maxHeartbeats 8000000
set_option maxRecDepth 20000
set_option linter.unusedSimpArgs false
set_option linter.unusedVariables false
namespace Go.Proofs.YtnknjeipfjdjoaaGreatDoor
open Go.RowKit Wells
def ManiR (w:World) (e:Ending) (w':World):Prop:=
 ∃ (m:Mani) (Ad:Option Addr) (nd cd:Nat) (Ao:Option Addr) (no co:Nat) (ts:List Value),e= .returned (m.val (.slice Ad nd cd) (.slice Ao no co))∧OM w.heap.size w' m Ad nd cd Ao no co ts∧PlayM m∧Below w.heap.size w w'
theorem Zzgd (B:Nat) (A:Option Addr) (n c:Nat) (l:List Int) (w:World) (h:Sl w B 1 A n (l.map (Value.int .i64))) (hB:B≤w.heap.size) (hn:n≤9223372036854775807) (hwf:∀ z∈l,-9223372036854775808≤z∧z≤9223372036854775807):
  Calls Tryz.prog 7 #[.slice A n c] w (ManiR w):=by
 obtain ⟨i0,hi,hz0,hz1,hz2⟩:=info_parts infoI4;obtain ⟨i1,hi',hz0',hz1',hz2'⟩:=info_parts infoE;have h64:=fun k=>Zzg7 hwf k
 have hslx:∀ w',Below w.heap.size w w'→Sl w' B 1 A n (l.map (Value.int .i64)):=fun w' hb=>h.below (hb.mono hB)
 have HSL:=hid hslx;obtain ⟨x0,hx0⟩:∃ x,numAt l 0=x:=⟨_,rfl⟩;have bx0:=h64 0;rw [hx0] at bx0;have Hx0:=hid hx0;clear hx0;obtain ⟨x1,hx1⟩:∃ x,numAt l 1=x:=⟨_,rfl⟩;have bx1:=h64 1;rw [hx1] at bx1;have Hx1:=hid hx1;clear hx1;obtain ⟨x2,hx2⟩:∃ x,numAt l 2=x:=⟨_,rfl⟩;have bx2:=h64 2;rw [hx2] at bx2;have Hx2:=hid hx2;clear hx2;obtain ⟨x3,hx3⟩:∃ x,numAt l 3=x:=⟨_,rfl⟩;have bx3:=h64 3;rw [hx3] at bx3;have Hx3:=hid hx3;clear hx3;obtain ⟨x4,hx4⟩:∃ x,numAt l 4=x:=⟨_,rfl⟩;have bx4:=h64 4;rw [hx4] at bx4;have Hx4:=hid hx4;clear hx4;obtain ⟨x5,hx5⟩:∃ x,numAt l 5=x:=⟨_,rfl⟩;have bx5:=h64 5;rw [hx5] at bx5;have Hx5:=hid hx5;clear hx5;obtain ⟨x6,hx6⟩:∃ x,numAt l 6=x:=⟨_,rfl⟩;have bx6:=h64 6;rw [hx6] at bx6
 have Hx6:=hid hx6;clear hx6;obtain ⟨x7,hx7⟩:∃ x,numAt l 7=x:=⟨_,rfl⟩;have bx7:=h64 7;rw [hx7] at bx7;have Hx7:=hid hx7;clear hx7;obtain ⟨xe,hxe⟩:∃ x,numAt l 14=x:=⟨_,rfl⟩;have bxe:=h64 14;rw [hxe] at bxe;have Hxe:=hid hxe;clear hxe;obtain ⟨y0,hy0⟩:∃ x,x0 % 1000=x:=⟨_,rfl⟩;have by0:0≤y0∧y0 < 1000:=by omega
 have Hy0:=hid hy0;clear hy0;obtain ⟨y4,hy4⟩:∃ x,x4 % 17=x:=⟨_,rfl⟩;have by4:0≤y4∧y4 < 17:=by omega
 have Hy4:=hid hy4;clear hy4;obtain ⟨y6,hy6⟩:∃ x,x6 % 9=x:=⟨_,rfl⟩;have by6:0≤y6∧y6 < 9:=by omega
 have Hy6:=hid hy6;clear hy6;obtain ⟨y7,hy7⟩:∃ x,x7 % 6=x:=⟨_,rfl⟩;have by7:0≤y7∧y7 < 6:=by omega
 have Hy7:=hid hy7;clear hy7;obtain ⟨ye,hye⟩:∃ x,xe % 100=x:=⟨_,rfl⟩;have bye:0≤ye∧ye < 100:=by omega
 have Hye:=hid hye;clear hye;obtain ⟨P,hP⟩:∃ P,smallOf x1 x2 x3=P:=⟨_,rfl⟩;have HP:=hid hP;clear hP;have hq:=Row.new w 28 #[.int .i64 0,.int .i64 0,.int .i64 0,.int .i64 0,.int .i64 0,.int .i64 0,.slice none 0 0,.slice none 0 0];have hb2:Below w.heap.size w (w.alloc (.cells #[.int .i64 0,.int .i64 0,.int .i64 0,.int .i64 0,.int .i64 0,.int .i64 0,.slice none 0 0,.slice none 0 0] 28)):=(Below.refl _ _).alloc (ZnR _) _;have H64X:=hid h64;clear h64 hslx;go_enter Tryz.func7,Tryz.ntmps7;go_wp2_with fail;generalize w.alloc (.cells #[.int .i64 0,.int .i64 0,.int .i64 0,.int .i64 0,.int .i64 0,.int .i64 0,.slice none 0 0,.slice none 0 0] 28)=w2 at*;obtain ⟨g0,hg0⟩:∃ g,w.heap.size=g:=⟨_,rfl⟩
 have HG0:=hid hg0;have hbc:=hb2;have hz2w:=hb2.size;rw [hg0] at hq ⊢;clear hg0;refine (Zz21 B A n c l 0 x0 _ (HSL.out _ hbc) hn (by omega) Hx0.out).mono ?_;rintro e w9 ⟨rfl,rfl⟩;go_wp2_with fail;refine (Zz07 x0 1000 _ (by omega) (by omega) (by omega) (by omega)).mono ?_;rintro e w9 ⟨rfl,rfl⟩;rw [Hy0.out];go_wp2_with fail;refine (Zz21 B A n c l 1 x1 _ (HSL.out _ hbc) hn (by omega) Hx1.out).mono ?_;rintro e w9 ⟨rfl,rfl⟩;go_wp2_with fail;refine (Zz21 B A n c l 2 x2 _ (HSL.out _ hbc) hn (by omega) Hx2.out).mono ?_;rintro e w9 ⟨rfl,rfl⟩;go_wp2_with fail;refine (Zz21 B A n c l 3 x3 _ (HSL.out _ hbc) hn (by omega) Hx3.out).mono ?_;rintro e w9 ⟨rfl,rfl⟩;go_wp2_with fail
 refine (Zzet P x1 x2 x3 _ bx1 bx2 bx3 HP.out).mono ?_;rintro e w3 ⟨rfl,hb3⟩;have hq3:=hq.below hb3 hq.lt;replace hbc:=hbc.trans (hb3.mono hz2w);clear hq hb3 hb2;have hz3:=hbc.size;go_wp2_with fail;refine (Zz21 B A n c l 4 x4 _ (HSL.out _ hbc) hn (by omega) Hx4.out).mono ?_;rintro e w9 ⟨rfl,rfl⟩;go_wp2_with fail;refine (Zz07 x4 17 _ (by omega) (by omega) (by omega) (by omega)).mono ?_;rintro e w9 ⟨rfl,rfl⟩;rw [Hy4.out];go_wp2_with fail;have hx4:=Row.new w3 28 #[.int .i64 (1+y0),.int .i64 0,.int .i64 P.K,.int .i64 P.H,.int .i64 P.S,.int .i64 y4,.slice none 0 0,.slice none 0 0]
 have hq4:=hq3.alloc (.cells #[.int .i64 (1+y0),.int .i64 0,.int .i64 P.K,.int .i64 P.H,.int .i64 P.S,.int .i64 y4,.slice none 0 0,.slice none 0 0] 28);have hb4:=hbc.alloc hz3 (.cells #[.int .i64 (1+y0),.int .i64 0,.int .i64 P.K,.int .i64 P.H,.int .i64 P.S,.int .i64 y4,.slice none 0 0,.slice none 0 0] 28);have hsx:(1:Int)+y0≤1000∧1≤1+y0:=by omega
 obtain ⟨sq,hsq⟩:∃ s,1+y0=s:=⟨_,rfl⟩;rw [hsq] at hx4 hq4 hb4 hsx ⊢;generalize w3.alloc (.cells #[.int .i64 sq,.int .i64 0,.int .i64 P.K,.int .i64 P.H,.int .i64 P.S,.int .i64 y4,.slice none 0 0,.slice none 0 0] 28)=w4 at*;obtain ⟨gm,hgm⟩:∃ g,w3.heap.size=g:=⟨_,rfl⟩;rw [hgm] at hx4 ⊢;have HSQ:=hid hsx;have hst4:ST w w4 g0 gm sq 0 P y4 none 0 0 [] none 0 0 [] []:=⟨hq4,hx4,World.ownsRow_nil _ _ _ _,OEs.nil_ _ _,rfl,hb4⟩;have HNE:Hid (gm≠g0):=hid (by have:=hq3.lt;omega);have HGM:Hid (w.heap.size≤gm):=hid (by omega);have HPK:=hid (show 1≤P.K∧P.K≤6∧1≤P.H∧P.H≤3∧1≤P.S∧P.S≤9 by rw [← HP.out];unfold smallOf;dsimp only;omega);clear hsq hgm hx4 hq4 hq3 hb4 hsx hbc hz3 hz2w
 go_loopw [5] (fun i wr=>∃ (k nd:Nat) (Ad:Option Addr) (cd:Nat) (ds:List Int),k≤8∧i= .int .i64 (k:Int)∧nd≤k∧ds.length=nd∧(∀ z∈ds,0≤z∧z≤56)∧ST w wr g0 gm sq 0 P y4 Ad nd cd ds none 0 0 [] []) (fun i _=>8 - (intOf i).toNat)
 case atStart=>exact ⟨0,0,none,0, [],by omega,rfl,by omega,rfl,(fun z hz=>by cases hz),hst4⟩
 case round=>
  obtain ⟨k,nd,Ad,cd,ds,hk,rfl,hnd,hdl,hdz,hst⟩:=hrel;have HST:=hid hst;have hbc:=hst.be;have HDL:=hid hdl;have HDZ:=hid hdz;clear hst hdl hdz hst4;by_cases hlt:k < 8
  ·go_wp2_with fail
   refine (Zz21 B A n c l 5 x5 _ (HSL.out _ hbc) hn (by omega) Hx5.out).mono ?_;rintro e w9 ⟨rfl,rfl⟩;go_wp2_with fail;obtain ⟨y5,hy5⟩:∃ y,x5 / 2 ^ k % 2=y:=⟨_,rfl⟩;have by5:0≤y5∧y5 < 2:=by omega
   have Hy5:=hid hy5;have hs5:=Zzhz bx5 k;clear hy5;refine (Zz07 (x5 / 2 ^ k) 2 _ (by omega) (by omega) (by omega) (by omega)).mono ?_;rintro e w9 ⟨rfl,rfl⟩;rw [Hy5.out];by_cases hy0:y5=0
   ·subst hy0
    obtain ⟨z,hz⟩:∃ z,(k:Int)*y6=z:=⟨_,rfl⟩;have hzb:0≤z∧z≤56:=by
     rw [← hz];have h1:=Int.mul_nonneg (show (0:Int)≤(k:Int) by omega) by6.1;have h2:=Int.mul_le_mul (show (k:Int)≤7 by omega) (show y6≤8 by omega) by6.1 (by omega);omega
    have hzw:IntKind.i64.wrap z=z:=by rw [IntKind.wrap_i64];omega
    go_wp2_with fail;refine Org.begin [11] (fun w'=>Row w' gm 28 [.int .i64 sq,.int .i64 0,.int .i64 P.K,.int .i64 P.H,.int .i64 P.S,.int .i64 y4,.slice Ad nd cd,.slice none 0 0]∧Below w.heap.size w w') [0,1,2,3,4,5,6,7,8,9,10,11] (by kernel_rfl) (⟨HST.out.drew_.x,HST.out.drew_.be⟩) (fun hS=> ?_);(refine Org.yV (SM.of hS) ?_;try simp only [aS,aN,aA,a0,a1]);(refine Org.yA (v:= ?_) (SM.of hS) ?_ ?_;rotate_left;(focus (intro w hSw;(try dsimp only at hSw);have c6:=hSw.1.cell 6;simp only [ZgS,ZgZ] at c6;refine Pure.val ?_;go_simp;(try with_reducible rfl);done));try simp only [aS,aN,aA,a0,a1]);iterate 3 (refine Org.yV (SM.of hS) ?_;try simp only [aS,aN,aA,a0,a1])
    (refine Org.yA (v:= ?_) (SM.of hS) ?_ ?_;rotate_left;(focus (intro w hSw;(try dsimp only at hSw);refine Pure.call 28 #[.slice A n c,.int .i64 6] (by go_simp;first | done | rfl) ?_;refine (Zz21 B A n c l 6 x6 _ (HSL.out _ hSw.2) hn (by omega) Hx6.out).mono ?_;rintro e w' ⟨rfl,rfl⟩;refine ⟨?_,rfl⟩;with_reducible rfl));try simp only [aS,aN,aA,a0,a1])
    (refine Org.yA (v:= ?_) (SM.of hS) ?_ ?_;rotate_left;(focus (intro w hSw;(try dsimp only at hSw);refine Pure.call 27 #[.int .i64 x6,.int .i64 9] (by go_simp;first | done | rfl) ?_;refine (Zz07 x6 9 _ (by omega) (by omega) (by omega) (by omega)).mono ?_;rintro e w' ⟨rfl,rfl⟩;rw [Hy6.out];refine ⟨?_,rfl⟩;with_reducible rfl));try simp only [aS,aN,aA,a0,a1]);(refine Org.yV (SM.of hS) ?_;try simp only [aS,aN,aA,a0,a1]);refine Org.gA fun K hK=> ?_
    go_simp;refine hK.out _ _ ⟨(HST.out.drew_.alloc (.cells #[.int .i64 z] 3)).x,(HST.out.drew_.alloc (.cells #[.int .i64 z] 3)).be⟩ (fun hS2=> ?_);clear hK K hS;have hS:=hS2;clear hS2;try simp only [aS,aN,aA,a0,a1]
    refine Org.gA fun K hK=> ?_
    have hst7:=HST.out.drew_.alloc (.cells #[.int .i64 z] 3);refine Zz0k (.tmp 39) (.tmp 46) 22 rfl w.heap.size 3 i0 (.int .i64 0) 1 8 Tryz.underlying22 hi hz0 hz1 hz2 rfl (by omega) (.slice Ad nd cd) nd (ds.map iv) rfl hst7.d _ _ 1 1 _ rfl (Sl.fresh wr.drew [.int .i64 z] 3 (0,0) 1 rfl) (by simp [Value.oneCell']) (nd+1) rfl ((ds++ [z]).map iv) (by simp [iv]) (by omega) (by omega) hst7.be.size ?_;intro A8 c8 w8 o8 g8 _;have hx8:=hst7.x.ownx hst7.d g8 (by decide);have HST8:=hid (hst7.setD (OEs.nil_ _ _) g8 o8 HNE.out HGM.out);refine hK.out _ _ ⟨hx8,Zz04 hst7.be hst7.d g8 (ZnR _) hst7.be.size⟩ (fun hS2=> ?_);clear hst7 o8 g8 hx8;clear hK K hS;have hS:=hS2;clear hS2
    try simp only [aS,aN,aA,a0,a1]
    (refine Org.yV (SM.of hS) ?_;try simp only [aS,aN,aA,a0,a1]);refine Org.mark (p:=11) rfl (by kernel_rfl) (by kernel_rfl) (by kernel_rfl) (by kernel_rfl) (fun K hK=> ?_);have f6:=hS.1.frozen 6;have k6:=hS.1.cell 6;simp only [ZgS,ZgZ] at k6;go_simp;refine hK.out _ _ ?_;clear f6 k6;clear hK K hS;try simp only [aS,aN,aA,a0,a1]
    refine Org.done (by kernel_rfl) ?_;have hdz2:∀ u∈ds++ [z],0≤u∧u≤56:=fun u hu=>by
     rcases List.mem_append.1 hu with h1 | h1
     ·exact HDZ.out u h1
     ·rw [List.mem_singleton.1 h1];exact hzb
    have HDZ2:=hid hdz2;clear hdz2 hzw;go_wp2_with fail;go_roundw
    case rel=>exact ⟨k+1,nd+1,A8,c8,ds++ [z],by omega,by go_num,by omega,by rw [List.length_append,HDL.out];rfl,HDZ2.out,HST8.out⟩
    case measure=>simp [intOf];omega
   ·have hy1:y5=1:=by omega
    subst hy1;go_wp2_with fail;go_roundw
    case rel=>exact ⟨k+1,nd,Ad,cd,ds,by omega,by go_num,by omega,HDL.out,HDZ.out,HST.out⟩
    case measure=>simp [intOf];omega
  ·have hx6c:=HST.out.x.cell 6
   simp only [ZgS,ZgZ] at hx6c;go_wp2_with fail;refine (Zzbe wr.heap.size Ad ds nd cd wr (Sl.own HST.out.d) (ZnR _) (by omega)).mono ?_;rintro e w5 ⟨Ar,nr,cr,rs,rfl,hor,hnr,hup,hmr,hb5⟩;have hst5:=HST.out.below hb5;have hor':=Zz0b hor HST.out.be.size;have hst6:=hst5.setR hor' HNE.out HGM.out;have hf6:=hst5.x.frozen 6;have hk6:=hst5.x.cell 6;simp only [ZgS,ZgZ] at hk6;have hrl:rs.length=nr:=by have:=hor.1;simpa using this
   have HRL:=hid hrl;have HUP:=hid hup;have HRZ:=hid (show ∀ z∈rs,0≤z∧z≤56 from fun z hz=>HDZ.out z (hmr z hz));have HST6:=hid hst6;have hnr8:nr≤8:=by omega
   clear hrl hup hmr hst6 hst5 hor hor' hx6c hb5 hbc HST HDL HDZ;go_wp2_with fail;go_loopw [6] (fun i wr=>∃ (k:Nat) (Ao:Option Addr) (co:Nat) (ts:List Value) (es:List Ent),k≤5∧i= .int .i64 (k:Int)∧(∀ j,j < k→PEnt P j (es.getD j default))∧ST w wr g0 gm sq 0 P y4 Ar nr cr rs Ao k co ts es) (fun i _=>6 - (intOf i).toNat)
   case atStart=>exact ⟨0,none,0, [], [],by omega,rfl,(fun j hj=>absurd hj (by omega)),HST6.out⟩
   case round=>
    clear HST6 hf6 hk6;obtain ⟨k,Ao,co,ts,es,hk,rfl,hpe,hst⟩:=hrel;have HST:=hid hst;have hbc:=hst.be;have HPE:=hid hpe;clear hst hpe;by_cases hlt:(k:Int) < y7
    ·go_wp2_with fail
     refine (Zz21 B A n c l 7 x7 _ (HSL.out _ hbc) hn (by omega) Hx7.out).mono ?_;rintro e w9 ⟨rfl,rfl⟩;go_wp2_with fail;refine (Zz07 x7 6 _ (by omega) (by omega) (by omega) (by omega)).mono ?_;rintro e w9 ⟨rfl,rfl⟩;rw [Hy7.out];go_wp2_with fail;obtain ⟨xn,hxn⟩:∃ x,numAt l (8+(k:Int))=x:=⟨_,rfl⟩;have bxn:=H64X.out (8+(k:Int));rw [hxn] at bxn;have Hxn:=hid hxn;clear hxn;refine (Zz21 B A n c l (8+(k:Int)) xn _ (HSL.out _ hbc) hn (by omega) Hxn.out).mono ?_;rintro e w9 ⟨rfl,rfl⟩;go_upto_region 13 with fail;obtain ⟨u,hu⟩:∃ u,xn % 26=u:=⟨_,rfl⟩;have bu:0≤u∧u < 26:=by omega
     have Hu:=hid hu;have htd:=Zzdq bxn;have htd2:=Zze8 bxn;obtain ⟨v,hv⟩:∃ v,xn.tdiv 26 % 3=v:=⟨_,rfl⟩;have bv:0≤v∧v < 3:=by omega
     have Hv:=hid hv;have hsz:1≤P.K*P.S∧P.K*P.S≤384:=by
      have:=Par.size_le (p:=P) (by have:=HPK.out;unfold Par.Ok;omega)
      exact this
     obtain ⟨q,hq⟩:∃ q,P.K*P.S=q:=⟨_,rfl⟩;rw [hq] at hsz;have HQS:=hid hq;obtain ⟨ln,hln⟩:∃ x,xn.tdiv 78 % (q*4+1)=x:=⟨_,rfl⟩;have bln:0≤ln∧ln≤q*4:=by
      have h1:=Int.emod_nonneg (xn.tdiv 78) (show q*4+1≠0 by omega);have h2:=Int.emod_lt_of_pos (xn.tdiv 78) (show 0 < q*4+1 by omega);omega
     have Hln:=hid hln;have hnm: [BitVec.ofNat 8 (97+2*k),BitVec.ofNat 8 (97+u.toNat)].map bv8= [.int .u8 (97+2*(k:Int)),.int .u8 (97+u)]:=by
      simp only [List.map_cons,List.map_nil,bv8,BitVec.toNat_ofNat];have e1:(((97+2*k) % 2 ^ 8:Nat):Int)=97+2*(k:Int):=by omega
      have e2:(((97+u.toNat) % 2 ^ 8:Nat):Int)=97+u:=by omega
      rw [e1,e2]
     obtain ⟨nm,hnm0⟩:∃ nm, [BitVec.ofNat 8 (97+2*k),BitVec.ofNat 8 (97+u.toNat)]=nm:=⟨_,rfl⟩;rw [hnm0] at hnm;have HNM0:=hid hnm0;have HNM:=hid hnm;clear hu hv hq hln hnm hnm0;go_cut [8] (fun s8 wx=>∃ ge:Nat,s8= .pointer (some ⟨ge,0,none⟩)∧wr.heap.size≤ge∧Row wx ge 61 [.string (strB nm),.int .i64 (3*(k:Int)+v),.int .i64 ln,.slice none 0 0]∧Below wr.heap.size wr wx)
     case first=>
      have e66:IntKind.i64.wrap (2*(k:Int))=2*(k:Int):=by rw [IntKind.wrap_i64];omega
      have e67:IntKind.i64.wrap (97+2*(k:Int))=97+2*(k:Int):=by rw [IntKind.wrap_i64];omega
      have e68:IntKind.u8.wrap (97+2*(k:Int))=97+2*(k:Int):=by rw [IntKind.wrap_u8];omega
      have e72:IntKind.i64.wrap (97+u)=97+u:=by rw [IntKind.wrap_i64];omega
      have e73:IntKind.u8.wrap (97+u)=97+u:=by rw [IntKind.wrap_u8];omega
      have e77:IntKind.i64.wrap (3*(k:Int))=3*(k:Int):=by rw [IntKind.wrap_i64];omega
      have e82:IntKind.i64.wrap (3*(k:Int)+v)=3*(k:Int)+v:=by rw [IntKind.wrap_i64];omega
      have e92:IntKind.i64.wrap (P.K*P.S)=q:=by rw [HQS.out,IntKind.wrap_i64];omega
      have e93:IntKind.i64.wrap (q*4)=q*4:=by rw [IntKind.wrap_i64];omega
      have e94:IntKind.i64.wrap (q*4+1)=q*4+1:=by rw [IntKind.wrap_i64];omega
      have e80:IntKind.i64.wrap (xn.tdiv 26)=xn.tdiv 26:=by rw [IntKind.wrap_i64];omega
      have e85:IntKind.i64.wrap (xn.tdiv 78)=xn.tdiv 78:=by rw [IntKind.wrap_i64];omega
      have HXX:=hid HST.out.x;refine Org.begin [] (fun w'=>Below wr.heap.size wr w') [0,1,2,3,4,5,6,7,8,11,12,13,14,15,16,17,18,19,20,21,22,23,24,25,26,27,28,29,30] (by kernel_rfl) (Zz05 (Below.refl _ _)) (fun hS=> ?_);generalize wr.drew=W0 at*;iterate 6 (refine Org.yV (SM.of hS) ?_;try simp only [aS,aN,aA,a0,a1])
      (refine Org.yA (v:= ?_) (SM.of hS) ?_ ?_;rotate_left;(focus (intro w hSw;(try dsimp only at hSw);refine Pure.call 27 #[.int .i64 xn,.int .i64 26] (by go_simp;first | done | rfl) ?_;refine (Zz07 xn 26 _ bxn.1 bxn.2 (by omega) (by omega)).mono ?_;rintro e w' ⟨rfl,rfl⟩;rw [Hu.out];refine ⟨?_,rfl⟩;with_reducible rfl));try simp only [aS,aN,aA,a0,a1]);iterate 7 (refine Org.yV (SM.of hS) ?_;try simp only [aS,aN,aA,a0,a1])
      (refine Org.yA (v:= ?_) (SM.of hS) ?_ ?_;rotate_left;(focus (intro w hSw;(try dsimp only at hSw);refine Pure.call 27 #[.int .i64 (xn.tdiv 26),.int .i64 3] (by go_simp;first | done | rfl) ?_;refine (Zz07 (xn.tdiv 26) 3 _ htd.1 htd.2 (by omega) (by omega)).mono ?_;rintro e w' ⟨rfl,rfl⟩;rw [Hv.out];refine ⟨?_,rfl⟩;with_reducible rfl));try simp only [aS,aN,aA,a0,a1]);iterate 6 (refine Org.yV (SM.of hS) ?_;try simp only [aS,aN,aA,a0,a1])
      (refine Org.yA (v:= ?_) (SM.of hS) ?_ ?_;rotate_left;(focus (intro w hSw;(try dsimp only at hSw);have hxw:=HXX.out.below hSw HXX.out.lt;have x2:=hxw.cell 2;have x4:=hxw.cell 4;simp only [ZgS,ZgZ] at x2 x4;clear hxw;refine Pure.val ?_;go_simp;(try with_reducible rfl);done));try simp only [aS,aN,aA,a0,a1]);iterate 2 (refine Org.yV (SM.of hS) ?_;try simp only [aS,aN,aA,a0,a1])
      (refine Org.yA (v:= ?_) (SM.of hS) ?_ ?_;rotate_left;(focus (intro w hSw;(try dsimp only at hSw);have hxw:=HXX.out.below hSw HXX.out.lt;have x2:=hxw.cell 2;have x4:=hxw.cell 4;simp only [ZgS,ZgZ] at x2 x4;clear hxw;refine Pure.val ?_;go_simp;(try with_reducible rfl);done));try simp only [aS,aN,aA,a0,a1]);iterate 3 (refine Org.yV (SM.of hS) ?_;try simp only [aS,aN,aA,a0,a1])
      (refine Org.yA (v:= ?_) (SM.of hS) ?_ ?_;rotate_left;(focus (intro w hSw;(try dsimp only at hSw);refine Pure.call 27 #[.int .i64 (xn.tdiv 78),.int .i64 (q*4+1)] (by go_simp;first | done | rfl) ?_;refine (Zz07 (xn.tdiv 78) (q*4+1) _ htd2.1 htd2.2 (by omega) (by omega)).mono ?_;rintro e w' ⟨rfl,rfl⟩;rw [Hln.out];refine ⟨?_,rfl⟩;with_reducible rfl));try simp only [aS,aN,aA,a0,a1]);refine Org.two (i:=9) (j:=32) [] [9,10,31,33] rfl rfl (by kernel_rfl) (by kernel_rfl) (by kernel_rfl) (fun K hK=> ?_) (fun K hK=> ?_)
      ·skip
       go_simp;obtain ⟨gv,hgv⟩:∃ g,W0.heap.size=g:=⟨_,rfl⟩;have hV:=Zzcj hS gv hgv [.int .u8 (97+2*(k:Int)),.int .u8 (97+u)] 5 1 2 rfl (by decide);have hS3:=hS.alloc hS.size (.cells #[.int .u8 (97+2*(k:Int)),.int .u8 (97+u)] 5);rw [hgv];rw [← HNM.out] at hV;have hV2:(W0.alloc (.cells #[.int .u8 (97+2*(k:Int)),.int .u8 (97+u)] 5)).ownsRow wr.heap.size 5 1 (.slice (some ⟨gv,0,none⟩) 2 2) 2 (nm.map bv8):=by have h:=hV;rw [HNM.out] at h ⊢;exact h
       clear hV;generalize W0.alloc (.cells #[.int .u8 (97+2*(k:Int)),.int .u8 (97+u)] 5)=W1 at*;have HV:=hid hV2;clear hgv hV2;refine hK.out _ _ hS3 (fun hS2=> ?_);clear hS3;clear hK K hS;have hS:=hS2;clear hS2;try simp only [aS,aN,aA,a0,a1]
       refine Org.two (i:=10) (j:=32) [31,32,33] [10,31,33] rfl rfl (by kernel_rfl) (by kernel_rfl) (by kernel_rfl) (fun K hK=> ?_) (fun K hK=> ?_)
       ·skip
        have kc:=Zz2y (P:=Tryz.prog) (c:=2) 33 9 5 Tryz.underlying33 Tryz.underlying5 Tryz.underlying9 (Sl.own HV.out);go_simp;refine hK.out _ _ hS (fun hS2=> ?_);clear kc;clear hK K hS;have hS:=hS2;clear hS2;try simp only [aS,aN,aA,a0,a1]
        (refine Org.yV (SM.of hS) ?_;try simp only [aS,aN,aA,a0,a1]);refine Org.gA fun K hK=> ?_
        go_simp;obtain ⟨ge,hge⟩:∃ ge,W1.heap.size=ge:=⟨_,rfl⟩;have HGE:=hid (show wr.heap.size≤ge by rw [← hge];exact hS.size);have hE:=Row.new W1 61 #[.string ⟨#[]⟩,.int .i64 0,.int .i64 0,.slice none 0 0];have hV:=HV.out.alloc (.cells #[.string ⟨#[]⟩,.int .i64 0,.int .i64 0,.slice none 0 0] 61);have hS3:=hS.alloc hS.size (.cells #[.string ⟨#[]⟩,.int .i64 0,.int .i64 0,.slice none 0 0] 61);rw [hge] at hE ⊢;generalize W1.alloc (.cells #[.string ⟨#[]⟩,.int .i64 0,.int .i64 0,.slice none 0 0] 61)=W2 at*;have HE:=hid hE;have HV:=hid hV;clear hV;clear hge hE;refine hK.out _ _ hS3 (fun hS2=> ?_);clear hS3;clear hK K hS;have hS:=hS2;clear hS2;try simp only [aS,aN,aA,a0,a1]
        refine Org.gA fun K hK=> ?_
        have y0:=HE.out.cell 0;have y1:=HE.out.cell 1;have y2:=HE.out.cell 2;have y3:=HE.out.cell 3;simp only [ZgS,ZgZ] at y0 y1 y2 y3;have z0:=HE.out.frozen 0;have z1:=HE.out.frozen 1;have z2:=HE.out.frozen 2;have z3:=HE.out.frozen 3;have hrow:=row4 HE.out (.string (strB nm)) (.int .i64 (3*(k:Int)+v)) (.int .i64 ln) (.slice none 0 0);have HROW:=hid hrow;have hS3:=((((hS.setCell (p:=(⟨ge,0,none⟩:Addr)) HGE.out (.string (strB nm))).setCell (p:=(⟨ge,1,none⟩:Addr)) HGE.out (.int .i64 (3*(k:Int)+v))).setCell (p:=(⟨ge,2,none⟩:Addr)) HGE.out (.int .i64 ln)).setCell (p:=(⟨ge,3,none⟩:Addr)) HGE.out (.slice none 0 0));have HS3:=hid hS3;clear hrow hS3;go_simp;refine hK.out _ _ HS3.out (fun hS2=> ?_)
        clear HS3 y0 y1 y2 y3 z0 z1 z2 z3;clear hK K hS;have hS:=hS2;clear hS2;try simp only [aS,aN,aA,a0,a1]
        refine Org.done (by kernel_rfl) ?_;have hSE:=hS;clear hS e80 e85 e66 e67 e68 e72 e73 e77 e82 e92 e93 e94;go_wp2_with fail;go_meet
        exact ⟨ge,rfl,HGE.out,HROW.out,hSE⟩
       ·skip
        go_simp;obtain ⟨ge,hge⟩:∃ ge,W1.heap.size=ge:=⟨_,rfl⟩;have HGE:=hid (show wr.heap.size≤ge by rw [← hge];exact hS.size);have hE:=Row.new W1 61 #[.string ⟨#[]⟩,.int .i64 0,.int .i64 0,.slice none 0 0];have hV:=HV.out.alloc (.cells #[.string ⟨#[]⟩,.int .i64 0,.int .i64 0,.slice none 0 0] 61);have hS3:=hS.alloc hS.size (.cells #[.string ⟨#[]⟩,.int .i64 0,.int .i64 0,.slice none 0 0] 61);rw [hge] at hE ⊢;generalize W1.alloc (.cells #[.string ⟨#[]⟩,.int .i64 0,.int .i64 0,.slice none 0 0] 61)=W2 at*;have HE:=hid hE;have HV:=hid hV;clear hV;clear hge hE;refine hK.out _ _ hS3 (fun hS2=> ?_);clear hS3;clear hK K hS;have hS:=hS2;clear hS2;try simp only [aS,aN,aA,a0,a1]
        refine Org.gA fun K hK=> ?_
        have kc:=Zz2y (P:=Tryz.prog) (c:=2) 33 9 5 Tryz.underlying33 Tryz.underlying5 Tryz.underlying9 (Sl.own HV.out);go_simp;refine hK.out _ _ hS (fun hS2=> ?_);clear kc;clear hK K hS;have hS:=hS2;clear hS2;try simp only [aS,aN,aA,a0,a1]
        (refine Org.yV (SM.of hS) ?_;try simp only [aS,aN,aA,a0,a1]);refine Org.gA fun K hK=> ?_
        have y0:=HE.out.cell 0;have y1:=HE.out.cell 1;have y2:=HE.out.cell 2;have y3:=HE.out.cell 3;simp only [ZgS,ZgZ] at y0 y1 y2 y3;have z0:=HE.out.frozen 0;have z1:=HE.out.frozen 1;have z2:=HE.out.frozen 2;have z3:=HE.out.frozen 3;have hrow:=row4 HE.out (.string (strB nm)) (.int .i64 (3*(k:Int)+v)) (.int .i64 ln) (.slice none 0 0);have HROW:=hid hrow;have hS3:=((((hS.setCell (p:=(⟨ge,0,none⟩:Addr)) HGE.out (.string (strB nm))).setCell (p:=(⟨ge,1,none⟩:Addr)) HGE.out (.int .i64 (3*(k:Int)+v))).setCell (p:=(⟨ge,2,none⟩:Addr)) HGE.out (.int .i64 ln)).setCell (p:=(⟨ge,3,none⟩:Addr)) HGE.out (.slice none 0 0));have HS3:=hid hS3;clear hrow hS3;go_simp;refine hK.out _ _ HS3.out (fun hS2=> ?_)
        clear HS3 y0 y1 y2 y3 z0 z1 z2 z3;clear hK K hS;have hS:=hS2;clear hS2;try simp only [aS,aN,aA,a0,a1]
        refine Org.done (by kernel_rfl) ?_;have hSE:=hS;clear hS e80 e85 e66 e67 e68 e72 e73 e77 e82 e92 e93 e94;go_wp2_with fail;go_meet
        exact ⟨ge,rfl,HGE.out,HROW.out,hSE⟩
      ·skip
       go_simp;obtain ⟨ge,hge⟩:∃ ge,W0.heap.size=ge:=⟨_,rfl⟩;have HGE:=hid (show wr.heap.size≤ge by rw [← hge];exact hS.size);have hE:=Row.new W0 61 #[.string ⟨#[]⟩,.int .i64 0,.int .i64 0,.slice none 0 0];have hS3:=hS.alloc hS.size (.cells #[.string ⟨#[]⟩,.int .i64 0,.int .i64 0,.slice none 0 0] 61);rw [hge] at hE ⊢;generalize W0.alloc (.cells #[.string ⟨#[]⟩,.int .i64 0,.int .i64 0,.slice none 0 0] 61)=W1 at*;have HE:=hid hE;clear hge hE;refine hK.out _ _ hS3 (fun hS2=> ?_);clear hS3;clear hK K hS;have hS:=hS2;clear hS2;try simp only [aS,aN,aA,a0,a1]
       refine Org.gA fun K hK=> ?_
       go_simp;obtain ⟨gv,hgv⟩:∃ g,W1.heap.size=g:=⟨_,rfl⟩;have hV:=Zzcj hS gv hgv [.int .u8 (97+2*(k:Int)),.int .u8 (97+u)] 5 1 2 rfl (by decide);have hE:=HE.out.alloc (.cells #[.int .u8 (97+2*(k:Int)),.int .u8 (97+u)] 5);have hS3:=hS.alloc hS.size (.cells #[.int .u8 (97+2*(k:Int)),.int .u8 (97+u)] 5);rw [hgv];rw [← HNM.out] at hV;have hV2:(W1.alloc (.cells #[.int .u8 (97+2*(k:Int)),.int .u8 (97+u)] 5)).ownsRow wr.heap.size 5 1 (.slice (some ⟨gv,0,none⟩) 2 2) 2 (nm.map bv8):=by have h:=hV;rw [HNM.out] at h ⊢;exact h
       clear hV;generalize W1.alloc (.cells #[.int .u8 (97+2*(k:Int)),.int .u8 (97+u)] 5)=W2 at*;have HV:=hid hV2;have HE:=hid hE;clear hE;clear hgv hV2;refine hK.out _ _ hS3 (fun hS2=> ?_);clear hS3;clear hK K hS;have hS:=hS2;clear hS2;try simp only [aS,aN,aA,a0,a1]
       refine Org.gA fun K hK=> ?_
       have kc:=Zz2y (P:=Tryz.prog) (c:=2) 33 9 5 Tryz.underlying33 Tryz.underlying5 Tryz.underlying9 (Sl.own HV.out);go_simp;refine hK.out _ _ hS (fun hS2=> ?_);clear kc;clear hK K hS;have hS:=hS2;clear hS2;try simp only [aS,aN,aA,a0,a1]
       (refine Org.yV (SM.of hS) ?_;try simp only [aS,aN,aA,a0,a1]);refine Org.gA fun K hK=> ?_
       have y0:=HE.out.cell 0;have y1:=HE.out.cell 1;have y2:=HE.out.cell 2;have y3:=HE.out.cell 3;simp only [ZgS,ZgZ] at y0 y1 y2 y3;have z0:=HE.out.frozen 0;have z1:=HE.out.frozen 1;have z2:=HE.out.frozen 2;have z3:=HE.out.frozen 3;have hrow:=row4 HE.out (.string (strB nm)) (.int .i64 (3*(k:Int)+v)) (.int .i64 ln) (.slice none 0 0);have HROW:=hid hrow;have hS3:=((((hS.setCell (p:=(⟨ge,0,none⟩:Addr)) HGE.out (.string (strB nm))).setCell (p:=(⟨ge,1,none⟩:Addr)) HGE.out (.int .i64 (3*(k:Int)+v))).setCell (p:=(⟨ge,2,none⟩:Addr)) HGE.out (.int .i64 ln)).setCell (p:=(⟨ge,3,none⟩:Addr)) HGE.out (.slice none 0 0));have HS3:=hid hS3;clear hrow hS3;go_simp;refine hK.out _ _ HS3.out (fun hS2=> ?_)
       clear HS3 y0 y1 y2 y3 z0 z1 z2 z3;clear hK K hS;have hS:=hS2;clear hS2;try simp only [aS,aN,aA,a0,a1]
       refine Org.done (by kernel_rfl) ?_;have hSE:=hS;clear hS e80 e85 e66 e67 e68 e72 e73 e77 e82 e92 e93 e94;go_wp2_with fail;go_meet
       exact ⟨ge,rfl,HGE.out,HROW.out,hSE⟩
     case rest=>
     obtain ⟨ge,rfl,hge,hre,hb13⟩:=hcut;obtain ⟨cn,hcn⟩:∃ x,countP P ln=x:=⟨_,rfl⟩;have hcb:0≤cn∧cn≤4:=by
      rw [← hcn];unfold countP;split
      ·rename_i hc
       have h1:0≤(ln - 1) / P.size:=Int.ediv_nonneg (by omega) (by unfold Par.size;rw [HQS.out];omega);have h2:(ln - 1) / P.size < 4:=by
        unfold Par.size;rw [HQS.out];exact Int.ediv_lt_of_lt_mul (by omega) (by omega)
       omega
      ·omega
     have HCN:=hid hcn;have HVP:=hid (show Par.val P= .agg #[.int .i64 P.K,.int .i64 P.H,.int .i64 P.S] from rfl);have HRE:=hid hre;have HB13:=hid hb13;have HGE:=hid hge;obtain ⟨wo,hwo⟩:∃ wo:World,wo=wr:=⟨_,rfl⟩;rw [← hwo] at HST HB13 HGE;clear hcn hre hb13 hge hwo hbc htd htd2;skip;go_wp2_with fail;go_loopw [9] (fun i wx=>∃ (j:Nat) (At:Option Addr) (ct:Nat) (trs:List Int),(j:Int)≤cn∧i= .int .i64 (j:Int)∧Row wx ge 61 [.string (strB nm),.int .i64 (3*(k:Int)+v),.int .i64 ln,.slice At j ct]∧wx.ownsRow wo.heap.size 3 1 (.slice At j ct) j (trs.map iv)∧(∀ z∈trs,0≤z∧z≤15)∧Below wo.heap.size wo wx) (fun i _=>6 - (intOf i).toNat)
     case atStart=>exact ⟨0,none,0, [],hcb.1,rfl,HRE.out,World.ownsRow_nil _ _ _ _,(fun z hz=>by cases hz),HB13.out⟩
     case round=>
      clear HRE HB13;obtain ⟨j,At,ct,trs,hj,rfl,hre,hot,htz,hbo⟩:=hrel;have hstx:=HST.out.below hbo;have hzx:=hbo.size;have HTZ:=hid htz;have HOT:=hid hot;have HRE:=hid hre;have HBO:=hid hbo;have x2:=hstx.x.cell 2;have x3:=hstx.x.cell 3;have x4:=hstx.x.cell 4;have w2c:=hre.cell 2;simp only [ZgS,ZgZ] at x2 x3 x4 w2c;have HSTX:=hid hstx;clear htz hot hre hstx;have hcall:∀ (W:World),Calls Tryz.prog 31 #[.agg #[.int .i64 P.K,.int .i64 P.H,.int .i64 P.S],.int .i64 ln] W fun e w'=>e= .returned (.int .i64 cn)∧Below W.heap.size W w':=fun W=>by
       rw [← HVP.out];exact Zz16 P ln cn W (by omega) HCN.out
      have HCALL:=hid hcall;clear hcall;by_cases hjc:(j:Int) < cn
      ·go_wp2_with (go_at_call 31;refine (HCALL.out _).mono ?_;rintro e w7 ⟨rfl,hb7⟩)
       have hbo7:=hbo.trans (hb7.mono hzx);have hre7:=HRE.out.below hb7 HRE.out.lt;have hot7:=HOT.out.kept (Zz02 hb7 none) (by cases (Value.slice At j ct).ownBlock <;> simp);have HRE7:=hid hre7;have HOT7:=hid hot7;have HBO7:=hid hbo7;obtain ⟨sh,hsh⟩:∃ x,xn / 2 ^ (j+3)=x:=⟨_,rfl⟩;have bsh:=Zzhz bxn (j+3);rw [hsh] at bsh;obtain ⟨r,hr⟩:∃ x,sh % 16=x:=⟨_,rfl⟩;have br:0≤r∧r≤15:=by omega
       have Hr:=hid hr;have Hsh:=hid hsh;have e111:IntKind.i64.wrap ((j:Int)+3)=(j:Int)+3:=by rw [IntKind.wrap_i64];omega
       have t111:((j:Int)+3).toNat=j+3:=by omega
       clear hr hre7 hot7 hbo7 hb7 x2 x3 x4 w2c hbo;refine Org.begin [11] (fun w'=>Row w' ge 61 [.string (strB nm),.int .i64 (3*(k:Int)+v),.int .i64 ln,.slice At j ct]∧Below wo.heap.size wo w') [0,1,2,3,4,5,6,7,8,9,10,11] (by kernel_rfl) (⟨HRE7.out.drew,Zz05 HBO7.out⟩) (fun hS=> ?_);(refine Org.yV (SM.of hS) ?_;try simp only [aS,aN,aA,a0,a1]);(refine Org.yA (v:= ?_) (SM.of hS) ?_ ?_;rotate_left;(focus (intro w hSw;(try dsimp only at hSw);have c3:=hSw.1.cell 3;simp only [ZgS,ZgZ] at c3;refine Pure.val ?_;go_simp;(try with_reducible rfl);done));try simp only [aS,aN,aA,a0,a1]);iterate 5 (refine Org.yV (SM.of hS) ?_;try simp only [aS,aN,aA,a0,a1])
       (refine Org.yA (v:= ?_) (SM.of hS) ?_ ?_;rotate_left;(focus (intro w hSw;(try dsimp only at hSw);refine Pure.call 27 #[.int .i64 sh,.int .i64 16] (by go_simp;first | done | rfl) ?_;refine (Zz07 sh 16 _ bsh.1 bsh.2 (by omega) (by omega)).mono ?_;rintro e w' ⟨rfl,rfl⟩;rw [Hr.out];refine ⟨?_,rfl⟩;with_reducible rfl));try simp only [aS,aN,aA,a0,a1]);refine Org.gA fun K hK=> ?_
       go_simp;refine hK.out _ _ ⟨(HRE7.out.drew).alloc (.cells #[.int .i64 r] 3),(Zz05 HBO7.out).alloc HBO7.out.size (.cells #[.int .i64 r] 3)⟩ (fun hS2=> ?_);clear hK K hS;have hS:=hS2;clear hS2;try simp only [aS,aN,aA,a0,a1]
       refine Org.gA fun K hK=> ?_
       have hot8:=(HOT7.out.drew_).alloc (.cells #[.int .i64 r] 3);have hbo8:=(Zz05 HBO7.out).alloc HBO7.out.size (.cells #[.int .i64 r] 3);have hre8:=(HRE7.out.drew).alloc (.cells #[.int .i64 r] 3);refine Zz0k (.tmp 107) (.tmp 114) 22 rfl wo.heap.size 3 i0 (.int .i64 0) 1 8 Tryz.underlying22 hi hz0 hz1 hz2 rfl (by omega) (.slice At j ct) j (trs.map iv) rfl hot8 _ _ 1 1 _ rfl (Sl.fresh w7.drew [.int .i64 r] 3 (0,0) 1 rfl) (by simp [Value.oneCell']) (j+1) rfl ((trs++ [r]).map iv) (by simp [iv]) (by omega) (by omega) hbo8.size ?_;intro A8 c8 w8 o8 g8 _;have hre9:=hre8.ownx hot8 g8 (by decide);have hbo9:=Zz04 hbo8 hot8 g8 (ZnR _) hbo8.size;have HRE8:=hid (hre9.set 3 (.slice A8 (j+1) c8))
       have HOT8:=hid (o8.far_ hre9 (by decide) 3 (.slice A8 (j+1) c8));have HBO8:=hid (hbo9.setCell (p:=(⟨ge,3,none⟩:Addr)) HGE.out (.slice A8 (j+1) c8));refine hK.out _ _ ⟨hre9,hbo9⟩ (fun hS2=> ?_);clear hot8 hbo8 hre8 o8 g8 hre9 hbo9;clear hK K hS;have hS:=hS2;clear hS2;try simp only [aS,aN,aA,a0,a1]
       (refine Org.yV (SM.of hS) ?_;try simp only [aS,aN,aA,a0,a1]);refine Org.mark (p:=11) rfl (by kernel_rfl) (by kernel_rfl) (by kernel_rfl) (by kernel_rfl) (fun K hK=> ?_);have f3:=hS.1.frozen 3;have k3:=hS.1.cell 3;simp only [ZgS,ZgZ] at k3;go_simp;refine hK.out _ _ ?_;clear f3 k3;clear hK K hS;try simp only [aS,aN,aA,a0,a1]
       refine Org.done (by kernel_rfl) ?_;have htz2:∀ u∈trs++ [r],0≤u∧u≤15:=fun u hu=>by
        rcases List.mem_append.1 hu with h1 | h1
        ·exact HTZ.out u h1
        ·rw [List.mem_singleton.1 h1];exact br
       have HTZ2:=hid htz2;clear htz2 e111 t111 hsh;go_wp2_with fail;go_roundw
       case rel=>exact ⟨j+1,A8,c8,trs++ [r],by omega,by go_num,HRE8.out,HOT8.out,HTZ2.out,HBO8.out⟩
       case measure=>simp [intOf];omega
      ·have hjc2:(j:Int)=cn:=by omega
       have HJ:=hid hjc2;clear hjc2;go_wp2_with fail;refine (HCALL.out _).mono ?_;rintro e w7 ⟨rfl,hb7⟩;have hst7:=HSTX.out.below hb7;have hre7:=HRE.out.below hb7 HRE.out.lt;have hot7:=HOT.out.kept (Zz02 hb7 none) (by cases (Value.slice At j ct).ownBlock <;> simp);have v0:=hre7.cell 0;have v1:=hre7.cell 1;have v2:=hre7.cell 2;have v3:=hre7.cell 3;have v7:=hst7.x.cell 7;simp only [ZgS,ZgZ] at v0 v1 v2 v3 v7;have how7:=hst7.o.own;rw [hst7.ol] at how7;have HOW7:=hid how7;have HST7:=hid hst7;have HOT7:=hid hot7;have hz7:=hst7.be.size;have hzo:=HST.out.be.size;clear how7 hst7 hot7 hre7 hb7 x2 x3 x4 w2c hbo
       go_wp2_with (at_builtin;go_must (refine Zz03 rfl (.tmp 118) (.tmp 120) 26 rfl w.heap.size 61 i1 (.agg #[.string ⟨#[]⟩,.int .i64 0,.int .i64 0,.slice none 0 0]) 4 56 Tryz.underlying26 hi' hz0' hz1' hz2' rfl (by omega) (.slice Ao k co) k (entsC es ts) rfl (HOW7.out.alloc _) _ _ 1 1 [.string (strB nm),.int .i64 (3*(k:Int)+v),.int .i64 ln,.slice At j ct] rfl (Sl.fresh4m _ _ _ rfl) (by simp [Value.oneCell']) (k+1) rfl _ rfl (by omega) (by omega) (by simp;omega) ?_);intro A8 c8 w8 o8 g8 _;have X8:=HST7.out.pushO (nm:=nm) (ob:=3*(k:Int)+v) (ln:=ln) (trs:=trs) HOT7.out hzo o8 g8;have hx8:=X8.1.frozen 7;have kx8:=X8.1.cell 7;simp only [ZgS,ZgZ] at kx8;have HX8:=hid (X8.2 HNE.out HGM.out);clear X8 o8 g8)
       have hpe2:∀ i,i < k+1→PEnt P i ((es++ [(⟨nm,3*(k:Int)+v,ln,trs⟩:Ent)]).getD i default):=fun i hi2=>by
        have hel:es.length=k:=HST7.out.ol;by_cases hik:i < k
        ·rw [ZgD,List.getElem?_append_left (by omega),← ZgD]
         exact HPE.out i hik
        ·obtain rfl:i=k:=by omega
         rw [ZgD,List.getElem?_append_right (by omega),hel,Nat.sub_self];have htl:trs.length=j:=by have:=HOT7.out.1;simpa using this
         refine ⟨⟨u.toNat,by omega,HNM0.out.symm⟩,(show 3*(i:Int)≤3*(i:Int)+v∧3*(i:Int)+v≤3*(i:Int)+2 by omega),by show 0≤ln∧ln≤P.K*P.S*4;rw [HQS.out];exact bln,HTZ.out,?_⟩;show (trs.length:Int)=countP P ln;rw [htl,HCN.out];exact HJ.out
       have HPE2:=hid hpe2;clear hpe2;go_roundw
       case rel=>exact ⟨k+1,A8,c8,ts++ [.slice At j ct],es++ [⟨nm,3*(k:Int)+v,ln,trs⟩],by omega,by go_num,HPE2.out,HX8.out⟩
       case measure=>simp [intOf];omega
    ·go_wp2_with fail
     refine (Zz21 B A n c l 7 x7 _ (HSL.out _ hbc) hn (by omega) Hx7.out).mono ?_;rintro e w9 ⟨rfl,rfl⟩;go_wp2_with fail;refine (Zz07 x7 6 _ (by omega) (by omega) (by omega) (by omega)).mono ?_;rintro e w9 ⟨rfl,rfl⟩;rw [Hy7.out];go_wp2_with fail;refine (Zz21 B A n c l 14 xe _ (HSL.out _ hbc) hn (by omega) Hxe.out).mono ?_;rintro e w9 ⟨rfl,rfl⟩;go_wp2_with fail;refine (Zz07 xe 100 _ (by omega) (by omega) (by omega) (by omega)).mono ?_;rintro e w9 ⟨rfl,rfl⟩;rw [Hye.out];have hxr:=HST.out.x;have hx1:=hxr.cell 1;have fx1:=hxr.frozen 1;have hx2:=hxr.set 1 (.int .i64 (20+ye));have hsf:=HST.out.setN (nx':=20+ye) HNE.out HGM.out;have hqr:=hsf.q;have c0:=hsf.x.cell 0;have c1:=hsf.x.cell 1
     have c2:=hsf.x.cell 2;have c3:=hsf.x.cell 3;have c4:=hsf.x.cell 4;have c5:=hsf.x.cell 5;have c6:=hsf.x.cell 6;have c7:=hsf.x.cell 7;have d0:=hqr.cell 0;have d1:=hqr.cell 1;have d2:=hqr.cell 2;have d3:=hqr.cell 3;have d4:=hqr.cell 4;have d5:=hqr.cell 5;have d6:=hqr.cell 6;have d7:=hqr.cell 7;have f0:=hqr.frozen 0;have f1:=hqr.frozen 1;have f2:=hqr.frozen 2;have f3:=hqr.frozen 3;have f4:=hqr.frozen 4;have f5:=hqr.frozen 5;have f6:=hqr.frozen 6;have f7:=hqr.frozen 7;simp only [ZgS,ZgZ] at hx1 c0 c1 c2 c3 c4 c5 c6 c7 d0 d1 d2 d3 d4 d5 d6 d7;have HSF:=hid hsf;clear hxr hx2 hsf hqr
     have R8:=hid (row8m HSF.out.q (.int .i64 sq) (.int .i64 (20+ye)) (.int .i64 P.K) (.int .i64 P.H) (.int .i64 P.S) (.int .i64 y4) (.slice Ar nr cr) (.slice Ao k co));have hg8:=grown8s (wr.setCell ⟨gm,1,none⟩ (.int .i64 (20+ye))) g0 (.int .i64 sq) (.int .i64 (20+ye)) (.int .i64 P.K) (.int .i64 P.H) (.int .i64 P.S) (.int .i64 y4) (.slice Ar nr cr) (.slice Ao k co);have hom:OM w.heap.size (wr.setCell ⟨gm,1,none⟩ (.int .i64 (20+ye))) (⟨sq,20+ye,P,y4,rs,es⟩:Mani) Ar nr cr Ao k co ts:=⟨HSF.out.d,HRL.out,HSF.out.o,HSF.out.ol⟩;have HOM:=hid (hom.other hg8 HSF.out.q (by decide) (by decide));have HBF:=hid (HSF.out.be.grown hg8 HSF.out.be.size (fun j hj=>by injection hj with hj;have:=HG0.out;omega))
     have hplay:PlayM (⟨sq,20+ye,P,y4,rs,es⟩:Mani):=by
      have hs:=HSQ.out;have hel:=HSF.out.ol;refine ⟨by show 1≤sq∧sq≤1000;omega,by show 20≤20+ye∧20+ye≤119;omega,HPK.out,by show 0≤y4∧y4≤16;omega,by show rs.length≤8;rw [HRL.out];exact hnr8,HUP.out,HRZ.out,by show es.length≤5;omega,fun i hi=> ?_⟩;have hi2:i < es.length:=hi;exact HPE.out i (by omega)
     have HPL:=hid hplay;clear hg8 hom hplay;go_wp2_with fail;obtain ⟨q0,q1,q2,q3,q4,q5,q6,q7⟩:=Row.c8 R8.out;refine bodyPost_ret (v:=(⟨sq,20+ye,P,y4,rs,es⟩:Mani).val (.slice Ar nr cr) (.slice Ao k co)) ?_ rfl ⟨(⟨sq,20+ye,P,y4,rs,es⟩:Mani),Ar,nr,cr,Ao,k,co,ts,rfl,HOM.out,HPL.out,HBF.out⟩;simp [results,Tryz.results7,go_sem,q0,q1,q2,q3,q4,q5,q6,q7]
     rfl
end Go.Proofs.YtnknjeipfjdjoaaGreatDoor
