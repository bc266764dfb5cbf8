/- SameMani -/
import Derived.BigGuardPart
import Derived.Deep.DeepCutAuto
import Derived.Deep.CutBlock
import Derived.Test.YtnknjeipfjdjoaaGreatDoorBScanTells08
import Derived.Test.YtnknjeipfjdjoaaGreatDoorBScanTells30
set_option maxHeartbeats 8000000
set_option maxRecDepth 20000
set_option linter.unusedSimpArgs false
set_option linter.unusedVariables false
namespace Wells
open Go Go.RowKit
theorem Zzge (a b:List Byte):((strB a).toList==(strB b).toList)=decide (a=b):=by
 rw [Bool.eq_iff_iff];simp only [beq_iff_eq,decide_eq_true_eq];constructor
 ·intro h
  apply Zzbf
  rw [ByteArray.toList_eq,ByteArray.toList_eq] at h;apply ByteArray.ext
  exact Array.toList_inj.1 h
 ·rintro rfl;rfl
theorem Ent.eta (e:Ent):e=⟨e.name,e.obj,e.len,e.tries⟩:=rfl
theorem Ent.ext' {x y:Ent} (h1:x.name=y.name) (h2:x.obj=y.obj) (h3:x.len=y.len) (h4:x.tries=y.tries):x=y:=by
 rw [Ent.eta x,Ent.eta y,h1,h2,h3,h4]
end Wells
namespace Go.Proofs.YtnknjeipfjdjoaaGreatDoor
open Go.RowKit Wells
theorem Zz4c (m m':Mani) (B:Nat) (Ad Ao Ad' Ao':Option Addr) (nd cd no co nd' cd' no' co':Nat) (ts ts':List Value) (b:Bool) (w:World) (h:RM w B m Ad nd cd Ao no co ts) (h':RM w B m' Ad' nd' cd' Ao' no' co' ts') (hB:B≤w.heap.size) (hb:decide (m=m')=b):
  Calls Tryz.prog 61 #[m.val (.slice Ad nd cd) (.slice Ao no co),m'.val (.slice Ad' nd' cd') (.slice Ao' no' co')] w fun e w'=>e= .returned (.bool b)∧Below w.heap.size w w':=by
 have HB:=hid hb;have HR:=hid h;have HR':=hid h';have hdc:=h.dc;have hdc':=h'.dc;have hoc:=h.oc;have hoc':=h'.oc;have hm1:=MCells.new w 28 m (.slice Ad nd cd) (.slice Ao no co);have hb1:Below w.heap.size w (w.alloc (maniObj 28 m (.slice Ad nd cd) (.slice Ao no co))):=(Below.refl _ _).alloc (ZnR _) _;have hm2:=MCells.new (w.alloc (maniObj 28 m (.slice Ad nd cd) (.slice Ao no co))) 28 m' (.slice Ad' nd' cd') (.slice Ao' no' co');have hm1':=hm1.keep ((Below.refl (w.alloc (maniObj 28 m (.slice Ad nd cd) (.slice Ao no co))).heap.size _).alloc (ZnR _) (maniObj 28 m' (.slice Ad' nd' cd') (.slice Ao' no' co'))) (by simp)
 have hb2:=hb1.alloc hb1.size (maniObj 28 m' (.slice Ad' nd' cd') (.slice Ao' no' co'));have hgs:(w.alloc (maniObj 28 m (.slice Ad nd cd) (.slice Ao no co))).heap.size=w.heap.size+1:=by simp
 rw [hgs] at hm2;have hball:∀ o1 o2:Obj,Below w.heap.size w ((w.alloc o1).alloc o2):=fun o1 o2=>((Below.refl _ _).alloc (ZnR _) o1).alloc (by simp) o2
 clear hm1 hb1 hgs h h' hb;obtain ⟨sq,nxt,⟨K,H,S⟩,ex,drs,obs⟩:=m;obtain ⟨sq',nxt',⟨K',H',S'⟩,ex',drs',obs'⟩:=m';obtain ⟨k0,k1,k2,k3,k4,k5,k6,k7⟩:=hm1';obtain ⟨j0,j1,j2,j3,j4,j5,j6,j7⟩:=hm2;unfold Mani.val;dsimp only at*;go_enter Tryz.func61,Tryz.ntmps61;go_wp2_with fail;all_goals try (go_ret;exact ⟨Zz0a (by
  rw [← HB.out];refine (decide_eq_false fun e=> ?_).symm;simp only [Mani.mk.injEq,Par.mk.injEq] at e;obtain ⟨e1,e2,⟨e4,e5,e6⟩,e7,e8,e9⟩:=e;omega),hball _ _⟩)
 have e1:sq=sq':=by assumption
 have e2:nxt=nxt':=by assumption
 have e3:K=K':=by assumption
 have e4:H=H':=by assumption
 have e5:S=S':=by assumption
 have e6:ex=ex':=by assumption
 subst e1 e2 e3 e4 e5 e6;generalize (w.alloc (.cells #[.int .i64 sq,.int .i64 nxt,.int .i64 K,.int .i64 H,.int .i64 S,.int .i64 ex,.slice Ad nd cd,.slice Ao no co] 28)).alloc (.cells #[.int .i64 sq,.int .i64 nxt,.int .i64 K,.int .i64 H,.int .i64 S,.int .i64 ex,.slice Ad' nd' cd',.slice Ao' no' co'] 28)=w2 at*;have hz2:=hb2.size;obtain ⟨bd,hbd⟩:∃ q,decide (drs=drs')=q:=⟨_,rfl⟩;have HBD:=hid hbd;have hd2:=HR.out.d.below (hb2.mono hB);have hd2':=HR'.out.d.below (hb2.mono hB);clear k0 k1 k2 k3 k4 k5 j0 j1 j2 j3 j4 j5 hball hbd;refine (Zzbd bd B Ad Ad' drs drs' nd nd' cd cd' _ hd2 hd2' (by omega) (by omega) HBD.out).mono ?_;rintro e w3 ⟨rfl,dd,rfl⟩;have hb3:=Zz01 hb2 dd;clear hd2 hd2'
 cases bd with
 | false=>
  have hbf:b=false:=by
   rw [← HB.out];refine decide_eq_false fun e=> ?_
   simp only [Mani.mk.injEq] at e;have:=HBD.out
   rw [decide_eq_false_iff_not] at this;exact this e.2.2.2.2.1
  subst hbf;go_wp2_with fail;go_ret
  exact ⟨rfl,hb3⟩
 | true=>
 have hbo:b=decide (obs=obs'):=by
  rw [← HB.out];have:=of_decide_eq_true HBD.out
  subst this;simp
 have HBO:=hid hbo;clear hbo;have hol:=HR.out.o.len;have hol':=HR'.out.o.len;dsimp only at hol hol';have HOL:=hid hol;have HOL':=hid hol';clear hol hol';by_cases hnn:no=no'
 ·subst hnn
  have hne:((no:Int) !=(no:Int))=false:=by simp
  replace k7:=Zz00 (Zz01 (Below.refl w2.heap.size w2) dd) k7;replace j7:=Zz00 (Zz01 (Below.refl w2.heap.size w2) dd) j7;have hz3:w.heap.size≤(w2.drewN dd).heap.size:=hz2;have HK7:=hid k7;have HJ7:=hid j7;clear hb2 hz2;generalize w2.drewN dd=w3 at*;go_wp2_with fail;go_loopw [54] (fun i wr=>∃ k:Nat,k≤no∧i= .int .i64 (k:Int)∧Hid (obs.take k=obs'.take k)∧Below w3.heap.size w3 wr) (fun i _=>no - (intOf i).toNat)
  case atStart=>exact ⟨0,Nat.zero_le _,rfl,hid rfl,Below.refl _ _⟩
  case round=>
   obtain ⟨k,hk,rfl,HT,hbr⟩:=hrel;replace k7:=Zz00 hbr HK7.out;replace j7:=Zz00 hbr HJ7.out;have hb0r:=hb3.trans (hbr.mono hz3);have hzr:=hb0r.size;by_cases hlt:k < no
   ·have hrs:=HR.out.o.below (hb0r.mono hB)
    have hrs':=HR'.out.o.below (hb0r.mono hB);obtain ⟨bx,ox,Ax,cx,hAo,hbx,e0,e1,e2,e3,hcx1,hcx2,hslx⟩:=hrs.get hlt;obtain ⟨by_,oy,Ay,cy,hAo',hby,i0,i1,i2,i3,hcy1,hcy2,hsly⟩:=hrs'.get hlt;subst hAo hAo';dsimp only at e0 e1 e2 e3 hcx1 hslx i0 i1 i2 i3 hcy1 hsly;obtain ⟨x,hx⟩:∃ x,obs.getD k default=x:=⟨_,rfl⟩;obtain ⟨y,hy⟩:∃ y,obs'.getD k default=y:=⟨_,rfl⟩;rw [hx] at e0 e1 e2 e3 hcx1 hslx;rw [hy] at i0 i1 i2 i3 hcy1 hsly;obtain ⟨nx,hnx⟩:∃ n,x.tries.length=n:=⟨_,rfl⟩;obtain ⟨ny,hny⟩:∃ n,y.tries.length=n:=⟨_,rfl⟩;rw [hnx] at e3 hcx1 hslx;rw [hny] at i3 hcy1 hsly;have hkl:k < obs.length:=by rw [HOL.out];exact hlt
    have hkl':k < obs'.length:=by rw [HOL'.out];exact hlt
    have hneq:x≠y→b=false:=fun hne2=>by
     rw [HBO.out];refine decide_eq_false fun e=>hne2 ?_
     rw [← hx,← hy,e]
    have hstep:x=y→obs.take (k+1)=obs'.take (k+1):=fun e=>by
     have hx2:obs[k]=x:=by rw [← hx,ZgD,ZgE hkl];rfl
     have hy2:obs'[k]=y:=by rw [← hy,ZgD,ZgE hkl'];rfl
     rw [ZtS hkl,ZtS hkl',HT.out,hx2,hy2,e]
    have HNEQ:=hid hneq;have HSTEP:=hid hstep;have HSLX:=hid hslx;have HSLY:=hid hsly;have hk0:(0:Int)≤(k:Int):=by omega
    have hk1:(k:Int) < (no:Int):=by omega
    clear hneq hstep hslx hsly hx hy hnx hny hkl hkl' hrs hrs';go_upto_region 6 with fail;go_cut [6,7] (fun s6 s7 wx=>∃ gX gY:Nat,s6= .pointer (some ⟨gX,0,none⟩)∧s7= .pointer (some ⟨gY,0,none⟩)∧Row wx gX 61 [.string (strB x.name),.int .i64 x.obj,.int .i64 x.len,.slice Ax nx cx]∧Row wx gY 61 [.string (strB y.name),.int .i64 y.obj,.int .i64 y.len,.slice Ay ny cy]∧Below wr.heap.size wr wx)
    case first=>
     refine Org.begin [] (fun w'=>Below wr.heap.size wr w') [0,1,2,3,4,5,6,7,8,9] (by kernel_rfl) (Zz05 (Below.refl _ _)) (fun hS=> ?_);generalize wr.drew=W0 at*;(refine Org.yV (SM.of hS) ?_;try simp only [aS,aN,aA,a0,a1]);(refine Org.yA (v:= ?_) (SM.of hS) ?_ ?_;rotate_left;(focus (intro w hSw;(try dsimp only at hSw);have qk7:=Zz00 hSw k7;refine Pure.val ?_;go_simp;(try with_reducible rfl);done));try simp only [aS,aN,aA,a0,a1]);iterate 2 (refine Org.yV (SM.of hS) ?_;try simp only [aS,aN,aA,a0,a1])
     (refine Org.yA (v:= ?_) (SM.of hS) ?_ ?_;rotate_left;(focus (intro w hSw;(try dsimp only at hSw);have qe0:=Zz00 hSw e0;have qe1:=Zz00 hSw e1;have qe2:=Zz00 hSw e2;have qe3:=Zz00 hSw e3;refine Pure.val ?_;go_simp;(try with_reducible rfl);done));try simp only [aS,aN,aA,a0,a1]);(refine Org.yV (SM.of hS) ?_;try simp only [aS,aN,aA,a0,a1]);(refine Org.yA (v:= ?_) (SM.of hS) ?_ ?_;rotate_left;(focus (intro w hSw;(try dsimp only at hSw);have qj7:=Zz00 hSw j7;refine Pure.val ?_;go_simp;(try with_reducible rfl);done));try simp only [aS,aN,aA,a0,a1]);iterate 2 (refine Org.yV (SM.of hS) ?_;try simp only [aS,aN,aA,a0,a1])
     (refine Org.yA (v:= ?_) (SM.of hS) ?_ ?_;rotate_left;(focus (intro w hSw;(try dsimp only at hSw);have qi0:=Zz00 hSw i0;have qi1:=Zz00 hSw i1;have qi2:=Zz00 hSw i2;have qi3:=Zz00 hSw i3;refine Pure.val ?_;go_simp;(try with_reducible rfl);done));try simp only [aS,aN,aA,a0,a1]);refine Org.two (i:=10) (j:=11) [11,12,13] [10,12,13] rfl rfl (by kernel_rfl) (by kernel_rfl) (by kernel_rfl) (fun K hK=> ?_) (fun K hK=> ?_)
     ·skip
      go_simp;obtain ⟨gX,hgX⟩:∃ g,W0.heap.size=g:=⟨_,rfl⟩;have HGX:=hid (show wr.heap.size≤gX by rw [← hgX];exact hS.size);have hX:=Row.new W0 61 #[.string ⟨#[]⟩,.int .i64 0,.int .i64 0,.slice none 0 0];have hS3:=hS.alloc hS.size (.cells #[.string ⟨#[]⟩,.int .i64 0,.int .i64 0,.slice none 0 0] 61);rw [hgX] at hX ⊢;generalize W0.alloc (.cells #[.string ⟨#[]⟩,.int .i64 0,.int .i64 0,.slice none 0 0] 61)=W1 at*;have HX:=hid hX;clear hgX hX;refine hK.out _ _ hS3 (fun hS2=> ?_);clear hS3;clear hK K hS;have hS:=hS2;clear hS2;try simp only [aS,aN,aA,a0,a1]
      refine Org.gA fun K hK=> ?_
      go_simp;obtain ⟨gY,hgY⟩:∃ g,W1.heap.size=g:=⟨_,rfl⟩;have HGY:=hid (show wr.heap.size≤gY by rw [← hgY];exact hS.size);have hY:=Row.new W1 61 #[.string ⟨#[]⟩,.int .i64 0,.int .i64 0,.slice none 0 0];have hX:=HX.out.alloc (.cells #[.string ⟨#[]⟩,.int .i64 0,.int .i64 0,.slice none 0 0] 61);have HNXY:=hid (show gX≠gY by have:=HX.out.lt;omega);have hS3:=hS.alloc hS.size (.cells #[.string ⟨#[]⟩,.int .i64 0,.int .i64 0,.slice none 0 0] 61);rw [hgY] at hY ⊢;generalize W1.alloc (.cells #[.string ⟨#[]⟩,.int .i64 0,.int .i64 0,.slice none 0 0] 61)=W2 at*;have HY:=hid hY;have HX:=hid hX;clear hX;clear hgY hY;refine hK.out _ _ hS3 (fun hS2=> ?_);clear hS3;clear hK K hS;have hS:=hS2;clear hS2
      try simp only [aS,aN,aA,a0,a1]
      refine Org.gA fun K hK=> ?_
      have y0:=HX.out.cell 0;have y1:=HX.out.cell 1;have y2:=HX.out.cell 2;have y3:=HX.out.cell 3;simp only [ZgS,ZgZ] at y0 y1 y2 y3;have z0:=HX.out.frozen 0;have z1:=HX.out.frozen 1;have z2:=HX.out.frozen 2;have z3:=HX.out.frozen 3;have HS3:=hid (((((hS).setCell (p:=(⟨gX,0,none⟩:Addr)) HGX.out (.string (strB x.name))).setCell (p:=(⟨gX,1,none⟩:Addr)) HGX.out (.int .i64 x.obj)).setCell (p:=(⟨gX,2,none⟩:Addr)) HGX.out (.int .i64 x.len)).setCell (p:=(⟨gX,3,none⟩:Addr)) HGX.out (.slice Ax nx cx))
      have HY:=hid (((((HY.out).far (p:=⟨gX,0,none⟩) HNXY.out.symm (.string (strB x.name))).far (p:=⟨gX,1,none⟩) HNXY.out.symm (.int .i64 x.obj)).far (p:=⟨gX,2,none⟩) HNXY.out.symm (.int .i64 x.len)).far (p:=⟨gX,3,none⟩) HNXY.out.symm (.slice Ax nx cx));have HX:=hid (row4 HX.out (.string (strB x.name)) (.int .i64 x.obj) (.int .i64 x.len) (.slice Ax nx cx));go_simp;refine hK.out _ _ HS3.out (fun hS2=> ?_);clear HS3 y0 y1 y2 y3 z0 z1 z2 z3;generalize ((((W2.setCell ⟨gX,0,none⟩ (.string (strB x.name))).setCell ⟨gX,1,none⟩ (.int .i64 x.obj)).setCell ⟨gX,2,none⟩ (.int .i64 x.len)).setCell ⟨gX,3,none⟩ (.slice Ax nx cx))=W3 at*;clear hK K hS;have hS:=hS2;clear hS2;try simp only [aS,aN,aA,a0,a1]
      refine Org.gA fun K hK=> ?_
      have y0:=HY.out.cell 0;have y1:=HY.out.cell 1;have y2:=HY.out.cell 2;have y3:=HY.out.cell 3;simp only [ZgS,ZgZ] at y0 y1 y2 y3;have z0:=HY.out.frozen 0;have z1:=HY.out.frozen 1;have z2:=HY.out.frozen 2;have z3:=HY.out.frozen 3;have HS3:=hid (((((hS).setCell (p:=(⟨gY,0,none⟩:Addr)) HGY.out (.string (strB y.name))).setCell (p:=(⟨gY,1,none⟩:Addr)) HGY.out (.int .i64 y.obj)).setCell (p:=(⟨gY,2,none⟩:Addr)) HGY.out (.int .i64 y.len)).setCell (p:=(⟨gY,3,none⟩:Addr)) HGY.out (.slice Ay ny cy))
      have HX:=hid (((((HX.out).far (p:=⟨gY,0,none⟩) HNXY.out (.string (strB y.name))).far (p:=⟨gY,1,none⟩) HNXY.out (.int .i64 y.obj)).far (p:=⟨gY,2,none⟩) HNXY.out (.int .i64 y.len)).far (p:=⟨gY,3,none⟩) HNXY.out (.slice Ay ny cy));have HY:=hid (row4 HY.out (.string (strB y.name)) (.int .i64 y.obj) (.int .i64 y.len) (.slice Ay ny cy));go_simp;refine hK.out _ _ HS3.out (fun hS2=> ?_);clear HS3 y0 y1 y2 y3 z0 z1 z2 z3;generalize ((((W3.setCell ⟨gY,0,none⟩ (.string (strB y.name))).setCell ⟨gY,1,none⟩ (.int .i64 y.obj)).setCell ⟨gY,2,none⟩ (.int .i64 y.len)).setCell ⟨gY,3,none⟩ (.slice Ay ny cy))=W4 at*;clear hK K hS;have hS:=hS2;clear hS2;try simp only [aS,aN,aA,a0,a1]
      refine Org.done (by kernel_rfl) ?_;have hSE:=hS;clear hS;go_wp2_with fail;go_meet
      exact ⟨gX,gY,rfl,rfl,HX.out,HY.out,hSE⟩
     ·skip
      go_simp;obtain ⟨gY,hgY⟩:∃ g,W0.heap.size=g:=⟨_,rfl⟩;have HGY:=hid (show wr.heap.size≤gY by rw [← hgY];exact hS.size);have hY:=Row.new W0 61 #[.string ⟨#[]⟩,.int .i64 0,.int .i64 0,.slice none 0 0];have hS3:=hS.alloc hS.size (.cells #[.string ⟨#[]⟩,.int .i64 0,.int .i64 0,.slice none 0 0] 61);rw [hgY] at hY ⊢;generalize W0.alloc (.cells #[.string ⟨#[]⟩,.int .i64 0,.int .i64 0,.slice none 0 0] 61)=W1 at*;have HY:=hid hY;clear hgY hY;refine hK.out _ _ hS3 (fun hS2=> ?_);clear hS3;clear hK K hS;have hS:=hS2;clear hS2;try simp only [aS,aN,aA,a0,a1]
      refine Org.gA fun K hK=> ?_
      go_simp;obtain ⟨gX,hgX⟩:∃ g,W1.heap.size=g:=⟨_,rfl⟩;have HGX:=hid (show wr.heap.size≤gX by rw [← hgX];exact hS.size);have hX:=Row.new W1 61 #[.string ⟨#[]⟩,.int .i64 0,.int .i64 0,.slice none 0 0];have hY:=HY.out.alloc (.cells #[.string ⟨#[]⟩,.int .i64 0,.int .i64 0,.slice none 0 0] 61);have HNXY:=hid (show gX≠gY by have:=HY.out.lt;omega);have hS3:=hS.alloc hS.size (.cells #[.string ⟨#[]⟩,.int .i64 0,.int .i64 0,.slice none 0 0] 61);rw [hgX] at hX ⊢;generalize W1.alloc (.cells #[.string ⟨#[]⟩,.int .i64 0,.int .i64 0,.slice none 0 0] 61)=W2 at*;have HX:=hid hX;have HY:=hid hY;clear hY;clear hgX hX;refine hK.out _ _ hS3 (fun hS2=> ?_);clear hS3;clear hK K hS;have hS:=hS2;clear hS2
      try simp only [aS,aN,aA,a0,a1]
      refine Org.gA fun K hK=> ?_
      have y0:=HX.out.cell 0;have y1:=HX.out.cell 1;have y2:=HX.out.cell 2;have y3:=HX.out.cell 3;simp only [ZgS,ZgZ] at y0 y1 y2 y3;have z0:=HX.out.frozen 0;have z1:=HX.out.frozen 1;have z2:=HX.out.frozen 2;have z3:=HX.out.frozen 3;have HS3:=hid (((((hS).setCell (p:=(⟨gX,0,none⟩:Addr)) HGX.out (.string (strB x.name))).setCell (p:=(⟨gX,1,none⟩:Addr)) HGX.out (.int .i64 x.obj)).setCell (p:=(⟨gX,2,none⟩:Addr)) HGX.out (.int .i64 x.len)).setCell (p:=(⟨gX,3,none⟩:Addr)) HGX.out (.slice Ax nx cx))
      have HY:=hid (((((HY.out).far (p:=⟨gX,0,none⟩) HNXY.out.symm (.string (strB x.name))).far (p:=⟨gX,1,none⟩) HNXY.out.symm (.int .i64 x.obj)).far (p:=⟨gX,2,none⟩) HNXY.out.symm (.int .i64 x.len)).far (p:=⟨gX,3,none⟩) HNXY.out.symm (.slice Ax nx cx));have HX:=hid (row4 HX.out (.string (strB x.name)) (.int .i64 x.obj) (.int .i64 x.len) (.slice Ax nx cx));go_simp;refine hK.out _ _ HS3.out (fun hS2=> ?_);clear HS3 y0 y1 y2 y3 z0 z1 z2 z3;generalize ((((W2.setCell ⟨gX,0,none⟩ (.string (strB x.name))).setCell ⟨gX,1,none⟩ (.int .i64 x.obj)).setCell ⟨gX,2,none⟩ (.int .i64 x.len)).setCell ⟨gX,3,none⟩ (.slice Ax nx cx))=W3 at*;clear hK K hS;have hS:=hS2;clear hS2;try simp only [aS,aN,aA,a0,a1]
      refine Org.gA fun K hK=> ?_
      have y0:=HY.out.cell 0;have y1:=HY.out.cell 1;have y2:=HY.out.cell 2;have y3:=HY.out.cell 3;simp only [ZgS,ZgZ] at y0 y1 y2 y3;have z0:=HY.out.frozen 0;have z1:=HY.out.frozen 1;have z2:=HY.out.frozen 2;have z3:=HY.out.frozen 3;have HS3:=hid (((((hS).setCell (p:=(⟨gY,0,none⟩:Addr)) HGY.out (.string (strB y.name))).setCell (p:=(⟨gY,1,none⟩:Addr)) HGY.out (.int .i64 y.obj)).setCell (p:=(⟨gY,2,none⟩:Addr)) HGY.out (.int .i64 y.len)).setCell (p:=(⟨gY,3,none⟩:Addr)) HGY.out (.slice Ay ny cy))
      have HX:=hid (((((HX.out).far (p:=⟨gY,0,none⟩) HNXY.out (.string (strB y.name))).far (p:=⟨gY,1,none⟩) HNXY.out (.int .i64 y.obj)).far (p:=⟨gY,2,none⟩) HNXY.out (.int .i64 y.len)).far (p:=⟨gY,3,none⟩) HNXY.out (.slice Ay ny cy));have HY:=hid (row4 HY.out (.string (strB y.name)) (.int .i64 y.obj) (.int .i64 y.len) (.slice Ay ny cy));go_simp;refine hK.out _ _ HS3.out (fun hS2=> ?_);clear HS3 y0 y1 y2 y3 z0 z1 z2 z3;generalize ((((W3.setCell ⟨gY,0,none⟩ (.string (strB y.name))).setCell ⟨gY,1,none⟩ (.int .i64 y.obj)).setCell ⟨gY,2,none⟩ (.int .i64 y.len)).setCell ⟨gY,3,none⟩ (.slice Ay ny cy))=W4 at*;clear hK K hS;have hS:=hS2;clear hS2;try simp only [aS,aN,aA,a0,a1]
      refine Org.done (by kernel_rfl) ?_;have hSE:=hS;clear hS;go_wp2_with fail;go_meet
      exact ⟨gX,gY,rfl,rfl,HX.out,HY.out,hSE⟩
    case rest=>
    obtain ⟨gX,gY,rfl,rfl,hrx,hry,hb6⟩:=hcut;have hslx:=HSLX.out.below (hb6.mono (ZnT hB hzr));have hsly:=HSLY.out.below (hb6.mono (ZnT hB hzr));have y0:=hrx.cell 0;have y1:=hrx.cell 1;have y2:=hrx.cell 2;have y3:=hrx.cell 3;have z0:=hry.cell 0;have z1:=hry.cell 1;have z2:=hry.cell 2;have z3:=hry.cell 3;simp only [ZgS,ZgZ] at y0 y1 y2 y3 z0 z1 z2 z3;have hb06:=hb0r.trans (hb6.mono hzr);have hb36:=hbr.trans (hb6.mono hbr.size);have HB06:=hid hb06;have HB36:=hid hb36;obtain ⟨bn,hbn⟩:∃ q,decide (x.name=y.name)=q:=⟨_,rfl⟩;have hq0:((strB x.name).toList==(strB y.name).toList)=bn:=by rw [Zzge,hbn]
    have HBN:=hid hbn;obtain ⟨bt,hbt⟩:∃ q,decide (x.tries=y.tries)=q:=⟨_,rfl⟩;have HBT:=hid hbt;clear hbn hbt hrx hry hb6 e0 e1 e2 e3 i0 i1 i2 i3 k7 j7 hb06 hb36 hbr;cases bn with
    | false=>
     have hbf:b=false:=HNEQ.out (fun e=>by have:=HBN.out;rw [e] at this;simp at this);subst hbf;go_wp2_with fail;go_ret
     exact ⟨rfl,HB06.out⟩
    | true=>
    have hnm:=of_decide_eq_true HBN.out;by_cases ho:x.obj=y.obj
    ·by_cases hl:x.len=y.len
     ·have ho2:(x.obj !=y.obj)=false:=by simp [ho]
      have hl2:(x.len !=y.len)=false:=by simp [hl]
      have HNM:=hid hnm;have HO:=hid ho;have HLL:=hid hl;clear hnm ho hl;go_wp2_with fail;refine (Zzbd bt B Ax Ay x.tries y.tries nx ny cx cy _ hslx hsly (by omega) (by omega) HBT.out).mono ?_;rintro e w7 ⟨rfl,d7,rfl⟩;have hb07:=Zz01 HB06.out d7;have hb37:=Zz01 HB36.out d7;have HB07:=hid hb07;have HB37:=hid hb37;clear hb07 hb37;cases bt with
      | false=>
       have hbf:b=false:=HNEQ.out (fun e=>by have:=HBT.out;rw [e] at this;simp at this);subst hbf;go_wp2_with fail;go_ret
       exact ⟨rfl,HB07.out⟩
      | true=>
       have HSS:=hid (HSTEP.out (Ent.ext' HNM.out HO.out HLL.out (of_decide_eq_true HBT.out)));go_wp2_with fail;go_roundw
       case rel=>exact ⟨k+1,by omega,by go_num,HSS,HB37.out⟩
       case measure=>simp [intOf];omega
     ·have hbf:b=false:=HNEQ.out (fun e=>hl (by rw [e]))
      subst hbf;have ho2:(x.obj !=y.obj)=false:=by simp [ho]
      have hl2:(x.len !=y.len)=true:=by simp [hl]
      clear hnm ho hl;go_wp2_with fail;go_ret
      exact ⟨rfl,HB06.out⟩
    ·have hbf:b=false:=HNEQ.out (fun e=>ho (by rw [e]))
     subst hbf;have ho2:(x.obj !=y.obj)=true:=by simp [ho]
     clear hnm ho;go_wp2_with fail;go_ret
     exact ⟨rfl,HB06.out⟩
   ·obtain rfl:k=no:=by omega
    have hbt:b=true:=by
     rw [HBO.out];refine decide_eq_true ?_;have:=HT.out
     rwa [ZtL (by rw [HOL.out];exact ZnR _),ZtL (by rw [HOL'.out];exact ZnR _)] at this
    subst hbt;go_wp2_with fail;go_ret
    exact ⟨rfl,hb0r⟩
 ·have hbf:b=false:=by
   rw [HBO.out];refine decide_eq_false fun e=> ?_
   subst e;exact hnn (HOL.out.symm.trans HOL'.out)
  subst hbf;have hne:((no:Int) !=(no':Int))=true:=by simp;omega
  go_wp2_with fail;go_ret
  exact ⟨rfl,hb3⟩
end Go.Proofs.YtnknjeipfjdjoaaGreatDoor
