/- Swl StbM StbMa Swl2 -/
import Derived.Shelf.SlSortCmp.KitK
import Derived.Deep.MidRow
import Derived.Test.YtnknjeipfjdjoaaGreatDoorProg
import Derived.BigGuardPart
import Derived.Deep.DeepCutAuto
import Derived.Lib.SliceRun
import Derived.Test.YtnknjeipfjdjoaaGreatDoorBScanTells21
set_option maxHeartbeats 8000000
set_option maxRecDepth 20000
set_option linter.unusedSimpArgs false
set_option linter.unusedVariables false
set_option linter.unusedSectionVars false
namespace Wells
open Go Go.RowKit Go.Sort Go.Proofs Go.Lib
variable {P:Program} {α:Type} [Inhabited α] {enc:α→List Value} {w0 W:World} {blk off N:Nat} {l:List α}
def SWL (enc:α→List Value) (w0:World) (blk off N:Nat) (l:List α) (W:World):Prop:=l.length=N∧∃ dk:Array α,dk.toList=l∧SWK enc 8 w0 blk off dk W
structure RowL (P:Program) (T:TypeId) (enc:α→List Value) (w0:World) (blk off N:Nat):Prop where
 row:∃ d0:Array α,d0.size=N∧RowK enc 8 w0 blk off d0
 agg:∃ d,P.underlying T=some d∧d.isRow=true
 size:(P.info? T).map (·.size)=some 8
theorem Zz08 {o:Oper} {a:Act} {w:World} (T:TypeId) (x:Operand) (ho:o.op= .load T x) {p v:Value} (hx:a.eval x=p) (h:(Instr.loadAt T p).run P w= .ok v w):(execOp a.eval o).run P w= .ok (.value v) w:=by
 unfold execOp;simp only [ho,hx,Sem.run_bind,Sem.run_pure,h,Result.andThen_ok]
theorem RowL.hk {T:TypeId} (R:RowL P T enc w0 blk off N) (x:α):(enc x).length=8:=by obtain ⟨_,_,R⟩:=R.row;exact R.hk x
theorem SWL.size_ (h:SWL enc w0 blk off N l W):∃ dk:Array α,dk.toList=l∧dk.size=N∧SWK enc 8 w0 blk off dk W:=by
 obtain ⟨hl,dk,h1,h2⟩:=h;exact ⟨dk,h1,by rw [← Array.length_toList,h1,hl],h2⟩
theorem SWL.grown (h:SWL enc w0 blk off N l W) (n:Nat) (os:Array Obj):SWL enc w0 blk off N l (grow (W.drewN n) os):=by
 obtain ⟨hl,dk,h1,h2⟩:=h;exact ⟨hl,dk,h1,h2.grown n os⟩
theorem SWL.drew (h:SWL enc w0 blk off N l W):SWL enc w0 blk off N l W.drew:=by
 obtain ⟨hl,dk,h1,h2⟩:=h;exact ⟨hl,dk,h1,h2.drew⟩
theorem SWL.drewN (h:SWL enc w0 blk off N l W) (n:Nat):SWL enc w0 blk off N l (W.drewN n):=by
 obtain ⟨hl,dk,h1,h2⟩:=h;exact ⟨hl,dk,h1,h2.drewN n⟩
theorem get!_of {dk:Array α} (h:dk.toList=l) {i:Nat} {x:α} (hi:l[i]? =some x):dk[i]! =x:=by
 rw [← h,Array.getElem?_toList] at hi;rw [getElem!_def,hi]
theorem SWL.range {T:TypeId} (h:SWL enc w0 blk off N l W) (R:RowL P T enc w0 blk off N) {i:Nat} {x:α} (hi:l[i]? =some x):W.rangeAt blk (off+i*8) (enc x)∧W.there blk (off+i*8) 8:=by
 obtain ⟨dk,h1,h2,h3⟩:=h.size_;obtain ⟨d0,hd,R0⟩:=R.row;have hH:=h3.holds R0.hblk R0.hH (by rw [h2,hd]);have hx:=get!_of h1 hi;have hil:i < dk.size:=by rw [← Array.length_toList,h1];exact (List.getElem?_eq_some_iff.1 hi).1
 constructor
 ·intro j v hj
  have hj8:j < 8:=by have:=(List.getElem?_eq_some_iff.1 hj).1;rw [R0.hk] at this;exact this
  have:=(hH.cell hil hj8).1
  rw [hx] at this;rw [this,getElem!_def,hj]
 ·intro j hj
  have:=hH.cell hil hj
  exact ⟨by rw [this.1];rfl,this.2⟩
theorem SWL.ld {T:TypeId} (h:SWL enc w0 blk off N l W) (R:RowL P T enc w0 blk off N) {i:Nat} {x:α} (hi:l[i]? =some x):
  (Instr.loadAt T (.pointer (some ⟨blk,off+i*8,none⟩))).run P W= .ok (.agg (enc x).toArray) W:=by
 obtain ⟨d,hd1,hd2⟩:=R.agg;exact run_loadAt_mid W blk (off+i*8) T (enc x) d (h.range R hi).1 hd1 hd2 (by rw [R.size,R.hk])
theorem SWL.cmp {g:Nat} {cf:α→α→Int} (h:SWL enc w0 blk off N l W) (hC:CmpLays P g #[] enc 8 cf blk off N w0) (x y:α) (n:Nat) (os:Array Obj):
  Calls P g #[.agg (enc x).toArray,.agg (enc y).toArray] (grow (W.drewN n) os) fun e w'=>e= .returned (.int .i64 (cf x y))∧∃ q os',w'=grow ((grow (W.drewN n) os).drewN q) os':=by
 obtain ⟨dk,h1,h2,h3⟩:=h.size_;exact h3.cmp hC h2 x y n os
theorem SWL.cmp0 {g:Nat} {cf:α→α→Int} (h:SWL enc w0 blk off N l W) (hC:CmpLays P g #[] enc 8 cf blk off N w0) (x y:α):
  Calls P g #[.agg (enc x).toArray,.agg (enc y).toArray] W fun e w'=>e= .returned (.int .i64 (cf x y))∧SWL enc w0 blk off N l w':=by
 have:=h.cmp hC x y 0 #[]
 rw [grow_empty] at this;refine this.mono ?_;rintro e w' ⟨rfl,q,os,rfl⟩;exact ⟨rfl,(h.drewN 0).grown q os⟩
theorem SWL.pre {T:TypeId} (R:RowL P T enc w0 blk off N) (h:SWL enc w0 blk off N l W) {A S:List α} {x:α} {i:Nat} (hl:l=A++x::S) (hi:A.length=i):l[i]? =some x:=by
 subst hl hi;simp
theorem SWL.exch {T:TypeId} (h:SWL enc w0 blk off N l W) (R:RowL P T enc w0 blk off N) {A M S:List α} {x y:α} {i j:Nat} (hl:l=A++x::(M++y::S)) (hi:A.length=i) (hj:i+1+M.length=j):
  SWL enc w0 blk off N (A++y::(M++x::S)) ((W.drew.setCells blk (off+i*8) (enc y)).setCells blk (off+j*8) (enc x))∧
  SWL enc w0 blk off N (A++y::(M++x::S)) ((W.drew.setCells blk (off+j*8) (enc x)).setCells blk (off+i*8) (enc y)):=by
 obtain ⟨hN,dk,h1,h3⟩:=h;obtain ⟨d0,hd,R0⟩:=R.row;have hx:dk[i]! =x:=get!_of h1 (by subst hl hi;simp);have hy:dk[j]! =y:=get!_of h1 (by subst hl;rw [show A++x::(M++y::S)=(A++x::M)++y::S by simp,List.getElem?_append_right (by simp;omega)];simp [show j - (A.length+(M.length+1))=0 by omega]);have hs:dk.size=l.length:=by rw [← Array.length_toList,h1]
 have hlen:l.length=i+1+(M.length+1+S.length):=by subst hl hi;simp;omega
 have e:=Zzgk (d:=dk) (P:=A) (M:=M) (S:=S) (x:=x) (y:=y) (i:=i) (j:=j) (by rw [h1,hl]) hi (by omega);have k1:=h3.drew.swap R0.hk R0.hblk i j (by omega) (by omega);have k2:=h3.drew.swap R0.hk R0.hblk j i (by omega) (by omega);rw [hx,hy] at k1 k2;have hl2:(A++y::(M++x::S)).length=N:=by rw [← hN,hl];simp
 exact ⟨⟨hl2,_,e.1,k1⟩,⟨hl2,_,e.2,k2⟩⟩
theorem SWL.sts {T:TypeId} (h:SWL enc w0 blk off N l W) (R:RowL P T enc w0 blk off N) {i j:Nat} {x y:α} (hi:l[i]? =some x) (hj:l[j]? =some y):
  W.drew.there blk (off+i*8) 8∧(W.drew.setCells blk (off+i*8) (enc y)).there blk (off+j*8) 8:=
 ⟨(h.drew.range R hi).2,World.there_setCells (h.drew.range R hj).2 _ _ _⟩
end Wells
namespace Go.Proofs.YtnknjeipfjdjoaaGreatDoor
open Go.RowKit Wells Go.Sort Go.Lib
variable {α:Type} [Inhabited α] {enc:α→List Value} {w0 W:World} {blk off N cap:Nat} {l:List α} {g:Nat} {cf:α→α→Int}
theorem Zz3u (R:RowL Tryz.prog 28 enc w0 blk off N) (hN:N≤1048576) (h1:∀ x,∀ v∈enc x,v.oneCell'=true) {A X M Y S:List α} {a b n:Nat} (fv:Value) (h:SWL enc w0 blk off N (A++(X++(M++(Y++S)))) W) (ha:A.length=a) (hx:X.length=n) (hy:Y.length=n) (hb:a+n+M.length=b):
  Calls Tryz.prog 151 #[.slice (some ⟨blk,off,none⟩) N cap,.int .i64 a,.int .i64 b,.int .i64 n,fv] W fun e w'=>e= .returned (.tuple #[])∧SWL enc w0 blk off N (A++(Y++(M++(X++S)))) w':=by
 have HL:=h.1;have HH:=hid h;have HX:=hid hx;have HY:=hid hy;have HA:=hid ha;have HB:=hid hb;have hbn:b+n≤N:=by have:=h.1;simp only [List.length_append] at this;omega
 have han:a+n≤b:=by omega
 clear h hx hy ha hb HL;go_enter Tryz.func151,Tryz.ntmps151;go_wp2
 go_loopw [10] (fun i wr=>∃ k:Nat,k≤n∧i= .int .i64 (k:Int)∧SWL enc w0 blk off N (swr A X M Y S k) wr) (fun i _=>n - (intOf i).toNat)
 case atStart=>exact ⟨0,Nat.zero_le _,rfl,by rw [Zz96];exact HH.out⟩
 case round=>
  obtain ⟨k,hk,rfl,hs⟩:=hrel;have HS:=hid hs;clear hs;by_cases hlt:k < n
  ·have hlt':(k:Int) < (n:Int):=by omega
   obtain ⟨ia,hia⟩:∃ ia,a+k=ia:=⟨_,rfl⟩;obtain ⟨ib,hib⟩:∃ ib,b+k=ib:=⟨_,rfl⟩;obtain ⟨A',M',S',x,y,hl,hl2,hA',hM'⟩:∃ A' M' S' x y,swr A X M Y S k=A'++x::(M'++y::S')∧swr A X M Y S (k+1)=A'++y::(M'++x::S')∧A'.length=ia∧ia+1+M'.length=ib:=
    Zz88 HX.out HY.out hlt (by have:=HA.out;omega) (by have:=HA.out;have:=HB.out;omega)
   have hia1:(ia:Int) < (N:Int):=by omega
   have hib1:(ib:Int) < (N:Int):=by omega
   have hwa:IntKind.i64.wrap ((a:Int)+(k:Int))=(ia:Int):=by rw [IntKind.wrap_i64];omega
   have hwb:IntKind.i64.wrap ((b:Int)+(k:Int))=(ib:Int):=by rw [IntKind.wrap_i64];omega
   have HL2:=hid hl2;clear hia hib hl2;go_wp2_with fail;have hx:=SWL.pre R HS.out hl hA';have hy:=SWL.pre R HS.out (A:=A'++x::M') (S:=S') (x:=y) (i:=ib) (by rw [hl];simp) (by simp at hA' hM' ⊢;omega);have hst:=HS.out.sts R hx hy;have hexc:=HS.out.exch R hl hA' hM';have hl1:=HS.out.drew.ld R hx;have hl2':=HS.out.drew.ld R hy;have HE:=hid hexc.1;have hxn:(enc x).length=8:=R.hk x;have hyn:(enc y).length=8:=R.hk y;have hxn1:(enc x).toArray.all (·.oneCell')=true:=by simpa using h1 x
   have hyn1:(enc y).toArray.all (·.oneCell')=true:=by simpa using h1 y
   clear hx hy hl hA' hM' hexc;obtain ⟨ex,hexx⟩:∃ c,c=enc x:=⟨_,rfl⟩;obtain ⟨ey,heyy⟩:∃ c,c=enc y:=⟨_,rfl⟩;rw [← hexx] at hl1 hxn hxn1 HE;rw [← heyy] at hl2' hyn hyn1 HE hst;clear hexx heyy;obtain ⟨wq,hwq⟩:∃ wq,wq=wr:=⟨_,rfl⟩;rw [← hwq] at hl1 hl2' hst HE ⊢;clear HS hwq;refine Org.begin [21,23] (fun w'=>w'=wq.drew) [0,1,2,3,4,5,6,7,8,9,10,11,12,13,14,15,16,17,18,19,20,21,22,23] (by kernel_rfl) (rfl) (fun hS=> ?_);iterate 4 (refine Org.yV (SM.of hS) ?_;try simp only [aS,aN,aA,a0,a1])
   iterate 4 (refine Org.fA (v:= ?_) (SM.of hS) ?_ ?_;rotate_left;(focus (intro w;refine Pure.val ?_;go_simp;(try with_reducible rfl);done));try simp only [aS,aN,aA,a0,a1])
   iterate 5 (refine Org.yV (SM.of hS) ?_;try simp only [aS,aN,aA,a0,a1])
   (refine Org.yA (v:= ?_) (SM.of hS) ?_ ?_;rotate_left;(focus (intro w hSw;(try dsimp only at hSw);rw [hSw];refine Pure.val ?_;refine (Zz08 28 (.tmp 28) rfl (by go_simp;first | done | rfl) hl2').trans ?_;with_reducible rfl));try simp only [aS,aN,aA,a0,a1]);iterate 5 (refine Org.fA (v:= ?_) (SM.of hS) ?_ ?_;rotate_left;(focus (intro w;refine Pure.val ?_;go_simp;(try with_reducible rfl);done));try simp only [aS,aN,aA,a0,a1])
   (refine Org.yA (v:= ?_) (SM.of hS) ?_ ?_;rotate_left;(focus (intro w hSw;(try dsimp only at hSw);rw [hSw];refine Pure.val ?_;refine (Zz08 28 (.tmp 34) rfl (by go_simp;first | done | rfl) hl1).trans ?_;with_reducible rfl));try simp only [aS,aN,aA,a0,a1]);(refine Org.yV (SM.of hS) ?_;try simp only [aS,aN,aA,a0,a1]);refine Org.mark (p:=21) rfl (by kernel_rfl) (by kernel_rfl) (by kernel_rfl) (by kernel_rfl) (fun K hK=> ?_);refine wp_store_mid 28 (.tmp 36) (.tmp 29) rfl blk (off+ia*8) (ey).toArray (by go_simp;first | done | rfl) (by go_simp;first | done | rfl) (by rw [show (ey).toArray.size=8 by simp [hyn]];exact hst.1) (by rw [show (ey).toArray.size=8 by simp [hyn]];exact R.size) hyn1 ?_
   refine hK.out _ _ ?_;clear hK K hS;try simp only [aS,aN,aA,a0,a1]
   (refine Org.fA (v:= ?_) (SM.past (p:=21) (by kernel_rfl) (by kernel_rfl)) ?_ ?_;rotate_left;(focus (intro w;refine Pure.val ?_;go_simp;(try with_reducible rfl);done));try simp only [aS,aN,aA,a0,a1]);refine Org.mark (p:=21) rfl (by kernel_rfl) (by kernel_rfl) (by kernel_rfl) (by kernel_rfl) (fun K hK=> ?_);refine wp_store_mid 28 (.tmp 37) (.tmp 35) rfl blk (off+ib*8) (ex).toArray (by go_simp;first | done | rfl) (by go_simp;first | done | rfl) (by rw [show (ex).toArray.size=8 by simp [hxn]];exact hst.2) (by rw [show (ex).toArray.size=8 by simp [hxn]];exact R.size) hxn1 ?_;refine hK.out _ _ ?_;clear hK K;try simp only [aS,aN,aA,a0,a1]
   refine Org.done (by kernel_rfl) ?_;skip;go_wp2_with fail;go_roundw
   case rel=>exact ⟨k+1,by omega,by go_num,by rw [HL2.out];exact HE.out⟩
   case measure=>simp [intOf] <;> omega
  ·have hlt':¬ (k:Int) < (n:Int):=by omega
   obtain rfl:k=n:=by omega
   go_wp2_with fail;go_end0
   exact ⟨rfl,by have:=HS.out;rwa [Zzfa HX.out HY.out] at this⟩
theorem Zze9 (R:RowL Tryz.prog 28 enc w0 blk off N) (hN:N≤1048576) (h1:∀ x,∀ v∈enc x,v.oneCell'=true) {A X Y S:List α} {a m b:Nat} (fv:Value) (h:SWL enc w0 blk off N (A++(X++(Y++S))) W) (ha:A.length=a) (hx:a+X.length=m) (hy:m+Y.length=b) (hx0:a < m) (hy0:m < b):
  Calls Tryz.prog 148 #[.slice (some ⟨blk,off,none⟩) N cap,.int .i64 a,.int .i64 m,.int .i64 b,fv] W fun e w'=>e= .returned (.tuple #[])∧SWL enc w0 blk off N (A++(Y++(X++S))) w':=by
 have hbN:b≤N:=by have:=h.1;simp only [List.length_append] at this;omega
 obtain ⟨i0,hi0⟩:∃ i0,X.length=i0:=⟨_,rfl⟩;obtain ⟨j0,hj0⟩:∃ j0,Y.length=j0:=⟨_,rfl⟩;have HA:=hid ha;have HI:=hid hi0;have HJ:=hid hj0;have HH:=hid h;have hi1:a+i0=m:=by omega
 have hj1:m+j0=b:=by omega
 have hw1:IntKind.i64.wrap ((m:Int) - (a:Int))=(i0:Int):=by rw [IntKind.wrap_i64];omega
 have hw2:IntKind.i64.wrap ((b:Int) - (m:Int))=(j0:Int):=by rw [IntKind.wrap_i64];omega
 have hw1':(m:Int) - (a:Int)=(i0:Int):=by omega
 have hw2':(b:Int) - (m:Int)=(j0:Int):=by omega
 clear h hi0 hj0 ha hx hy;go_enter Tryz.func148,Tryz.ntmps148;go_wp2_with fail;go_loopw [10,11] (fun vi vj wr=>∃ (i j:Nat) (A' X' Y' S':List α),vi= .int .i64 (i:Int)∧vj= .int .i64 (j:Int)∧0 < i∧0 < j∧i≤m∧m+j≤b∧SWL enc w0 blk off N (A'++(X'++(Y'++S'))) wr∧Hid (A'.length+i=m∧X'.length=i∧Y'.length=j∧A++(Y++(X++S))=A'++(Y'++(X'++S')))) (fun i j _=>(intOf i).toNat+(intOf j).toNat)
 case atStart=>exact ⟨i0,j0,A,X,Y,S,rfl,rfl,by omega,by omega,by omega,by omega,HH.out,⟨by have:=HA.out;omega,HI.out,HJ.out,rfl⟩⟩
 case round=>
  obtain ⟨i,j,A',X',Y',S',rfl,rfl,hi,hj,him,hjb,hs,HF⟩:=hrel;have HS:=hid hs;clear hs hw1 hw2 hw1' hw2';rcases Nat.lt_trichotomy i j with hij | hij | hij
  ·have t1:¬ (i:Int)=(j:Int):=by omega
   have t2:¬ (j:Int) < (i:Int):=by omega
   obtain ⟨mi,hmi⟩:∃ mi,m - i=mi:=⟨_,rfl⟩;obtain ⟨mj,hmj⟩:∃ mj,m+j - i=mj:=⟨_,rfl⟩;obtain ⟨ji,hji⟩:∃ ji,j - i=ji:=⟨_,rfl⟩;have e1:(m:Int) - (i:Int)=(mi:Int):=by omega
   have e2:(m:Int)+(j:Int) - (i:Int)=(mj:Int):=by omega
   have e3:(j:Int) - (i:Int)=(ji:Int):=by omega
   obtain ⟨f1,f2,f3,f4⟩:=HF.out;have hk:=Zz3u (cap:=cap) R hN h1 (A:=A') (X:=X') (M:=Y'.take ji) (Y:=Y'.drop ji) (S:=S') (a:=mi) (b:=mj) (n:=i) fv (W:=wr) (by have:=HS.out;rwa [show Y'++S'=Y'.take ji++(Y'.drop ji++S') by rw [← List.append_assoc,List.take_append_drop]] at this) (by omega) f2 (by simp;omega) (by simp;omega);have HK:=hid hk;clear f1 f2 f3 f4 hk;go_wp2_with fail;try rw [e1,e2]
   refine HK.out.mono ?_;rintro e w2 ⟨rfl,hs2⟩;have HS2:=hid hs2;clear hs2;go_wp2_with fail;try rw [e3]
   go_roundw
   case rel=>
    refine ⟨i,ji,A',Y'.drop ji,Y'.take ji,X'++S',rfl,rfl,hi,by omega,him,by omega,by have:=HS2.out;simpa using this,?_⟩;obtain ⟨f1,f2,f3,f4⟩:=HF.out;refine ⟨f1,by simp;omega,by simp;omega,?_⟩;rw [f4,← List.append_assoc (Y'.take ji),List.take_append_drop]
   case measure=>simp [intOf] <;> omega
  ·subst hij
   have t1:(i:Int)=(i:Int):=rfl;obtain ⟨mi,hmi⟩:∃ mi,m - i=mi:=⟨_,rfl⟩;have e1:(m:Int) - (i:Int)=(mi:Int):=by omega
   obtain ⟨f1,f2,f3,f4⟩:=HF.out;have hk:=Zz3u (cap:=cap) R hN h1 (A:=A') (X:=X') (M:= []) (Y:=Y') (S:=S') (a:=mi) (b:=m) (n:=i) fv (W:=wr) (by have:=HS.out;simpa using this) (by omega) f2 f3 (by simp;omega);have HK:=hid hk;clear f1 f2 f3 f4 hk;go_wp2_with fail;try rw [e1]
   refine HK.out.mono ?_;rintro e w2 ⟨rfl,hs2⟩;have HS2:=hid hs2;clear hs2;go_wp2_with fail;go_end0
   refine ⟨rfl,?_⟩;obtain ⟨f1,f2,f3,f4⟩:=HF.out;rw [f4];simpa using HS2.out
  ·have t1:¬ (i:Int)=(j:Int):=by omega
   have t2:(j:Int) < (i:Int):=by omega
   obtain ⟨mi,hmi⟩:∃ mi,m - i=mi:=⟨_,rfl⟩;obtain ⟨ji,hji⟩:∃ ji,i - j=ji:=⟨_,rfl⟩;have e1:(m:Int) - (i:Int)=(mi:Int):=by omega
   have e3:(i:Int) - (j:Int)=(ji:Int):=by omega
   obtain ⟨f1,f2,f3,f4⟩:=HF.out;have hk:=Zz3u (cap:=cap) R hN h1 (A:=A') (X:=X'.take j) (M:=X'.drop j) (Y:=Y') (S:=S') (a:=mi) (b:=m) (n:=j) fv (W:=wr) (by have:=HS.out;rwa [show X'++(Y'++S')=X'.take j++(X'.drop j++(Y'++S')) by rw [← List.append_assoc (X'.take j),List.take_append_drop]] at this) (by omega) (by simp;omega) f3 (by simp;omega);have HK:=hid hk;clear f1 f2 f3 f4 hk;go_wp2_with fail;try rw [e1]
   refine HK.out.mono ?_;rintro e w2 ⟨rfl,hs2⟩;have HS2:=hid hs2;clear hs2;go_wp2_with fail;try rw [e3]
   go_roundw
   case rel=>
    refine ⟨ji,j,A'++Y',X'.drop j,X'.take j,S',rfl,rfl,by omega,hj,by omega,hjb,by have:=HS2.out;simpa using this,?_⟩;obtain ⟨f1,f2,f3,f4⟩:=HF.out;refine ⟨by simp;omega,by simp;omega,by simp;omega,?_⟩;rw [f4,← List.append_assoc (X'.take j),List.take_append_drop,List.append_assoc]
   case measure=>simp [intOf] <;> omega
theorem Zz8y (ho:SOrd fun x y=>decide (cf x y < 0)) (R:RowL Tryz.prog 28 enc w0 blk off N) (hN:N≤1048576) (h1:∀ x,∀ v∈enc x,v.oneCell'=true) (eg:∀ args w,(callFunc g args).run Tryz.prog w= .ok (.enter g args) w) (hC:CmpLays Tryz.prog g #[] enc 8 cf blk off N w0) {A L S:List α} {a b:Nat} (h:SWL enc w0 blk off N (A++(L++S)) W) (ha:A.length=a) (hb:a+L.length=b):
  Calls Tryz.prog 140 #[.slice (some ⟨blk,off,none⟩) N cap,.int .i64 a,.int .i64 b,.func (.func g) #[] #[]] W fun e w'=>e= .returned (.tuple #[])∧SWL enc w0 blk off N (A++(ssort (fun x y=>decide (cf x y < 0)) L++S)) w':=by
 have hbN:b≤N:=by have:=h.1;simp only [List.length_append] at this;omega
 have hab:a≤b:=by omega
 have HA:=hid ha;have HB:=hid hb;have HH:=hid h;have HC:=hid hC;have HO:=hid ho;clear h ha hb hC ho;go_enter Tryz.func140,Tryz.ntmps140;go_wp2_with fail;go_loopw [8] (fun vi wr=>∃ (i:Nat),vi= .int .i64 (i:Int)∧a < i∧i≤b+1∧(i≤b∨a=b)∧SWL enc w0 blk off N (A++(ssort (fun x y=>decide (cf x y < 0)) (L.take (i - a))++(L.drop (i - a)++S))) wr) (fun i _=>b+1 - (intOf i).toNat)
 case atStart=>
  refine ⟨a+1,by go_num,by omega,by omega,by omega,?_⟩;have e:ssort (fun x y=>decide (cf x y < 0)) (L.take (a+1 - a))=L.take (a+1 - a):=by
   rw [show a+1 - a=1 by omega];cases L with
   | nil=>rfl
   | cons x L=>rfl
  rw [e,← List.append_assoc (List.take _ _),List.take_append_drop];exact HH.out
 case round=>
  obtain ⟨i,rfl,hai,hib,hib2,hs⟩:=hrel;have HS:=hid hs;clear hs;by_cases hlt:i < b
  ·have hlt':(i:Int) < (b:Int):=by omega
   obtain ⟨x,hx1,hx2⟩:∃ x,L.drop (i - a)=x::L.drop (i - a+1)∧L.take (i - a+1)=L.take (i - a)++ [x]:=by
    have:i - a < L.length:=by have:=HB.out;omega
    exact ⟨L[i - a],List.drop_eq_getElem_cons this,ZtS this⟩
   obtain ⟨Z,hZ⟩:∃ Z,ssort (fun x y=>decide (cf x y < 0)) (L.take (i - a))=Z:=⟨_,rfl⟩;have hZs:Srt (fun x y=>decide (cf x y < 0)) Z:=by rw [← hZ];exact Zz0q HO.out _
   have hZl:Z.length=i - a:=by rw [← hZ,Zz09];simp;have:=HB.out;omega
   have hnx:ssort (fun x y=>decide (cf x y < 0)) (L.take (i - a+1))=ins (fun x y=>decide (cf x y < 0)) x Z:=by rw [hx2,Zz1q,hZ]
   have hs:=HS.out;rw [hZ,hx1] at hs;clear HS;have HS:=hid hs;have HNX:=hid hnx;have HZS:=hid hZs;have HZL:=hid hZl;clear hs hnx hZs hZl hZ hx1 hx2;obtain ⟨S1,hS1⟩:∃ S1,L.drop (i - a+1)++S=S1:=⟨_,rfl⟩;have HS1:=hid hS1;have hs:=HS.out;simp only [List.cons_append] at hs;rw [hS1] at hs;clear hS1 HS;have HS:=hid hs;clear hs;go_wp2_with fail;go_loopw [9] (fun vj wr2=>∃ (j:Nat) (Z1 Z2:List α),vj= .int .i64 (j:Int)∧a≤j∧j≤i∧SWL enc w0 blk off N (A++(Z1++(x::(Z2++S1)))) wr2∧Hid (a+Z1.length=j∧Z=Z1++Z2∧∀ y∈Z2,cf x y < 0)) (fun j _=>(intOf j).toNat)
   case atStart=>exact ⟨i,Z, [],rfl,by omega,ZnR _,by simpa using HS.out,⟨by have:=HZL.out;omega,by simp,fun y hy=>by cases hy⟩⟩
   case round=>
    obtain ⟨j,Z1,Z2,rfl,haj,hji,hs2,HF⟩:=hrel;clear HS;have HS:=hid hs2;clear hs2;have endd:(∀ y∈Z1,¬ cf x y < 0)→A++(Z1++(x::(Z2++S1)))=A++(ssort (fun x y=>decide (cf x y < 0)) (L.take (i+1 - a))++(L.drop (i+1 - a)++S)):=fun hn=>by
     obtain ⟨_,f2,f3⟩:=HF.out;rw [show i+1 - a=i - a+1 by omega,HNX.out,f2,Zzbs (fun y hy=>by simpa using hn y hy) (fun y hy=>by simpa using f3 y hy),HS1.out];simp
    have END:=hid endd;clear endd;by_cases hja:a < j
    ·have hja':(a:Int) < (j:Int):=by omega
     obtain ⟨ia,rfl⟩:∃ ia,j=ia+1:=⟨j - 1,by omega⟩;obtain ⟨Z0,y,hz⟩:∃ Z0 y,Z1=Z0++ [y]:=by
      have:0 < Z1.length:=by have:=HF.out.1;omega
      exact ⟨Z1.dropLast,Z1.getLast (List.ne_nil_of_length_pos this),(List.dropLast_concat_getLast _).symm⟩
     subst hz;obtain ⟨ib,hib'⟩:∃ ib,ia+1=ib:=⟨_,rfl⟩;have hl:A++(Z0++ [y]++(x::(Z2++S1)))=(A++Z0)++y::([]++x::(Z2++S1)):=by simp
     have hA':(A++Z0).length=ia:=by have:=HF.out.1;have:=HA.out;simp at*;omega
     have hM':ia+1+([]:List α).length=ib:=by simpa using hib'
     have p1:=SWL.pre R HS.out (A:=A++(Z0++ [y])) (S:=Z2++S1) (x:=x) (i:=ib) (by simp) (by simp at*;omega);have p2:=SWL.pre R HS.out hl hA';have P1:=hid p1;have P2:=hid p2;have HL:=hid hl;have HA':=hid hA';have HM':=hid hM';have ci:(ib:Int) < (N:Int):=by omega
     have ci1:(ia:Int) < (N:Int):=by omega
     have c4:(ia:Int)+1=(ib:Int):=by omega
     have c5:(a:Int) < (ib:Int):=by omega
     have c6:IntKind.i64.wrap ((ib:Int) - 1)=(ia:Int):=by rw [IntKind.wrap_i64];omega
     clear p1 p2 hl hA' hM';have hgo:(fun b=>b) (decide ((a:Int) < (ib:Int)))=true:=by simp [c5]
     go_wp2_with fail;try rw [c4]
     refine Org.begin [] (SWL enc w0 blk off N (A++(Z0++ [y]++(x::(Z2++S1))))) [0,1,2,3,4,5,6,7,8,9,10,11,12,13,14,15,16] (by kernel_rfl) (HS.out.drew) (fun hS=> ?_);iterate 8 (refine Org.yV (SM.of hS) ?_;try simp only [aS,aN,aA,a0,a1])
     (refine Org.yA (v:= ?_) (SM.of hS) ?_ ?_;rotate_left;(focus (intro w hSw;(try dsimp only at hSw);refine Pure.val ?_;refine (Zz08 28 (.tmp 25) rfl (by go_simp;first | done | rfl) (SWL.ld hSw R P1.out)).trans ?_;with_reducible rfl));try simp only [aS,aN,aA,a0,a1]);iterate 4 (refine Org.yV (SM.of hS) ?_;try simp only [aS,aN,aA,a0,a1])
     (refine Org.yA (v:= ?_) (SM.of hS) ?_ ?_;rotate_left;(focus (intro w hSw;(try dsimp only at hSw);refine Pure.val ?_;refine (Zz08 28 (.tmp 30) rfl (by go_simp;first | done | rfl) (SWL.ld hSw R P2.out)).trans ?_;with_reducible rfl));try simp only [aS,aN,aA,a0,a1]);refine Org.gA fun K hK=> ?_
     go_simp
     first
      | (go_at_fn g)
      | skip
     refine ((SWL.cmp0 hS HC.out x y)).mono ?_;rintro e wz ⟨rfl,hS3⟩;go_wp2_with fail;refine hK.out _ _ hS3 (fun hS2=> ?_);clear hS3;clear hK K hS;have hS:=hS2;clear hS2;try simp only [aS,aN,aA,a0,a1]
     iterate 2 (refine Org.yV (SM.of hS) ?_;try simp only [aS,aN,aA,a0,a1])
     refine Org.done (by kernel_rfl) ?_;skip;have HS3:=hid hS;clear HS hS;by_cases hlv:cf x y < 0
     ·have HS:=hid (show SWL enc w0 blk off N ((A++Z0)++y::([]++x::(Z2++S1))) wz by rw [← HL.out];exact HS3.out)
      clear HS3;have hA':=HA'.out;have hM':=HM'.out;go_wp2_with fail;have hx:=SWL.pre R HS.out rfl hA';have hy:=SWL.pre R HS.out (A:=(A++Z0)++y::([]:List α)) (S:=(Z2++S1)) (x:=x) (i:=ib) (by simp) (by simp at hA' hM' ⊢;omega);have hst:=HS.out.sts R hy hx;have hexc:=HS.out.exch R rfl hA' hM';have hl1:=HS.out.drew.ld R hx;have hl2':=HS.out.drew.ld R hy;have HE:=hid hexc.2;have hxn:(enc y).length=8:=R.hk y;have hyn:(enc x).length=8:=R.hk x;have hxn1:(enc y).toArray.all (·.oneCell')=true:=by simpa using h1 y
      have hyn1:(enc x).toArray.all (·.oneCell')=true:=by simpa using h1 x
      clear hx hy hA' hM' hexc;obtain ⟨ex,hexx⟩:∃ c,c=enc y:=⟨_,rfl⟩;obtain ⟨ey,heyy⟩:∃ c,c=enc x:=⟨_,rfl⟩;rw [← hexx] at hl1 hxn hxn1 HE hst;rw [← heyy] at hl2' hyn hyn1 HE;clear hexx heyy;obtain ⟨wq,hwq⟩:∃ wq,wq=wz:=⟨_,rfl⟩;rw [← hwq] at hl1 hl2' hst HE ⊢;clear HS hwq;refine Org.begin [15,17] (fun w'=>w'=wq.drew) [0,1,2,3,4,5,6,7,8,9,10,11,12,13,14,15,16,17] (by kernel_rfl) (rfl) (fun hS=> ?_);iterate 2 (refine Org.yV (SM.of hS) ?_;try simp only [aS,aN,aA,a0,a1])
      iterate 3 (refine Org.fA (v:= ?_) (SM.of hS) ?_ ?_;rotate_left;(focus (intro w;refine Pure.val ?_;go_simp;(try with_reducible rfl);done));try simp only [aS,aN,aA,a0,a1])
      iterate 4 (refine Org.yV (SM.of hS) ?_;try simp only [aS,aN,aA,a0,a1])
      (refine Org.yA (v:= ?_) (SM.of hS) ?_ ?_;rotate_left;(focus (intro w hSw;(try dsimp only at hSw);rw [hSw];refine Pure.val ?_;refine (Zz08 28 (.tmp 45) rfl (by go_simp;first | done | rfl) hl1).trans ?_;with_reducible rfl));try simp only [aS,aN,aA,a0,a1]);iterate 3 (refine Org.fA (v:= ?_) (SM.of hS) ?_ ?_;rotate_left;(focus (intro w;refine Pure.val ?_;go_simp;(try with_reducible rfl);done));try simp only [aS,aN,aA,a0,a1])
      (refine Org.yA (v:= ?_) (SM.of hS) ?_ ?_;rotate_left;(focus (intro w hSw;(try dsimp only at hSw);rw [hSw];refine Pure.val ?_;refine (Zz08 28 (.tmp 49) rfl (by go_simp;first | done | rfl) hl2').trans ?_;with_reducible rfl));try simp only [aS,aN,aA,a0,a1]);(refine Org.yV (SM.of hS) ?_;try simp only [aS,aN,aA,a0,a1]);refine Org.mark (p:=15) rfl (by kernel_rfl) (by kernel_rfl) (by kernel_rfl) (by kernel_rfl) (fun K hK=> ?_);refine wp_store_mid 28 (.tmp 51) (.tmp 46) rfl blk (off+ib*8) (ex).toArray (by go_simp;first | done | rfl) (by go_simp;first | done | rfl) (by rw [show (ex).toArray.size=8 by simp [hxn]];exact hst.1) (by rw [show (ex).toArray.size=8 by simp [hxn]];exact R.size) hxn1 ?_
      refine hK.out _ _ ?_;clear hK K hS;try simp only [aS,aN,aA,a0,a1]
      (refine Org.fA (v:= ?_) (SM.past (p:=15) (by kernel_rfl) (by kernel_rfl)) ?_ ?_;rotate_left;(focus (intro w;refine Pure.val ?_;go_simp;(try with_reducible rfl);done));try simp only [aS,aN,aA,a0,a1]);refine Org.mark (p:=15) rfl (by kernel_rfl) (by kernel_rfl) (by kernel_rfl) (by kernel_rfl) (fun K hK=> ?_);refine wp_store_mid 28 (.tmp 52) (.tmp 50) rfl blk (off+ia*8) (ey).toArray (by go_simp;first | done | rfl) (by go_simp;first | done | rfl) (by rw [show (ey).toArray.size=8 by simp [hyn]];exact hst.2) (by rw [show (ey).toArray.size=8 by simp [hyn]];exact R.size) hyn1 ?_;refine hK.out _ _ ?_;clear hK K;try simp only [aS,aN,aA,a0,a1]
      refine Org.done (by kernel_rfl) ?_;skip;go_wp2_with fail;go_roundw
      case rel=>
       refine ⟨ia,Z0,y::Z2,by go_num,by omega,by omega,by have:=HE.out;simpa using this,?_⟩;obtain ⟨f1,f2,f3⟩:=HF.out;refine ⟨by simp at f1;omega,by rw [f2];simp,fun z hz=> ?_⟩;rcases List.mem_cons.1 hz with rfl | hz
       ·exact hlv
       ·exact f3 z hz
      case measure=>simp [intOf] <;> omega
     ·go_wp2_with fail
      go_roundw
      case rel=>
       refine ⟨i+1,by go_num,by omega,by omega,by omega,?_⟩;rw [← END.out]
       ·exact HS3.out
       ·intro z hz
        have hp:=HF.out.2.1;have hs:=HZS.out;rw [hp] at hs;rcases List.mem_append.1 hz with hz | hz
        ·have h3:=(List.pairwise_append.1 (List.pairwise_append.1 hs).1).2.2 z hz y (by simp)
         have:=HO.out.le (x:=z) (y:=y) (z:=x) h3 (by simpa using hlv)
         simpa using this
        ·simp only [List.mem_singleton] at hz
         subst hz;omega
      case measure=>simp [intOf] <;> omega
    ·have hja1:decide ((j:Int) > (a:Int))=false:=decide_eq_false (by omega)
     have hja2:¬ (a:Int) < (j:Int):=by omega
     go_wp2_with fail;refine Org.begin [] (SWL enc w0 blk off N (A++(Z1++(x::(Z2++S1))))) [0,1,2,3,4,5,6,7,8,9,10,11,12,13,14,15,16] (by kernel_rfl) (HS.out.drew) (fun hS=> ?_);iterate 4 (refine Org.yV (SM.of hS) ?_;try simp only [aS,aN,aA,a0,a1])
     iterate 12 (refine Org.nA (SM.of hS) ?_;try simp only [aS,aN,aA,a0,a1])
     (refine Org.yV (SM.of hS) ?_;try simp only [aS,aN,aA,a0,a1]);refine Org.done (by kernel_rfl) ?_;skip;go_wp2_with fail;go_roundw
     case rel=>
      refine ⟨i+1,by go_num,by omega,by omega,by omega,?_⟩;rw [← END.out]
      ·exact hS
      ·intro z hz
       have:Z1= []:=List.eq_nil_of_length_eq_zero (by have:=HF.out.1;omega)
       rw [this] at hz;cases hz
     case measure=>simp [intOf] <;> omega
  ·have hlt':¬ (i:Int) < (b:Int):=by omega
   go_wp2_with fail;go_end0
   refine ⟨rfl,?_⟩;have:=HS.out
   rwa [ZtL (by have:=HB.out;omega),List.drop_eq_nil_of_le (by have:=HB.out;omega),List.nil_append] at this
variable {α:Type} [Inhabited α] {enc:α→List Value} {w0 W:World} {blk off N cap:Nat} {l:List α} {g:Nat} {cf:α→α→Int}
theorem ssymAM (ho:SOrd fun x y=>decide (cf x y < 0)) (R:RowL Tryz.prog 28 enc w0 blk off N) (hN:N≤1048576) (h1:∀ x,∀ v∈enc x,v.oneCell'=true) (eg:∀ args w,(callFunc g args).run Tryz.prog w= .ok (.enter g args) w) (hC:CmpLays Tryz.prog g #[] enc 8 cf blk off N w0) {A Z S:List α} {x:α} {a m b:Nat} (h:SWL enc w0 blk off N (A++(x::(Z++S))) W) (ha:A.length=a) (hm:a+1=m) (hb:m+Z.length=b) (hmb:m < b) (hZ:Srt (fun x y=>decide (cf x y < 0)) Z):
  Calls Tryz.prog 141 #[.slice (some ⟨blk,off,none⟩) N cap,.int .i64 a,.int .i64 m,.int .i64 b,.func (.func g) #[] #[]] W fun e w'=>e= .returned (.tuple #[])∧SWL enc w0 blk off N (A++(mrg (fun x y=>decide (cf x y < 0)) [x] Z++S)) w':=by
 have hbN:b≤N:=by have:=h.1;simp only [List.length_append,List.length_cons] at this;omega
 have HA:=hid ha;have HM:=hid hm;have HB:=hid hb;have HH:=hid h;have HC:=hid hC;have HZ:=hid hZ;have HO:=hid ho;have t1:(m:Int) - (a:Int)=1:=by omega
 have ham:a < m:=by omega
 have px:=SWL.pre R h (A:=A) (S:=Z++S) (x:=x) (i:=a) rfl ha;have PX:=hid px;have pz:∀ i,m≤i→i < b→(A++(x::(Z++S)))[i]? =some (Z[i - m]!):=fun i h1 h2=>by
  rw [List.getElem?_append_right (by omega),show i - A.length=(i - m)+1 by omega,ZgS,List.getElem?_append_left (by omega),getElem!_pos Z (i - m) (by omega),ZgE]
 have PZ:=hid pz;clear h ha hm hb hC px pz hZ ho;go_enter Tryz.func141,Tryz.ntmps141;go_wp2_with fail;go_loopw [10,11] (fun vi vj wr=>∃ (i j:Nat),vi= .int .i64 (i:Int)∧vj= .int .i64 (j:Int)∧m≤i∧i≤j∧j≤b∧SWL enc w0 blk off N (A++(x::(Z++S))) wr∧Hid ((i=m∨cf (Z[i - 1 - m]!) x < 0)∧(j=b∨0≤cf (Z[j - m]!) x))) (fun i j _=>(intOf j).toNat - (intOf i).toNat)
 case atStart=>exact ⟨m,b,rfl,rfl,ZnR _,by omega,ZnR _,HH.out,⟨.inl rfl,.inl rfl⟩⟩
 case round=>
  obtain ⟨i,j,rfl,rfl,hmi,hij,hjb,hs,HF⟩:=hrel;have HS:=hid hs;clear hs;by_cases hlt:i < j
  ·have hlt':(i:Int) < (j:Int):=by omega
   obtain ⟨h,hh⟩:∃ h,(i+j) / 2=h:=⟨_,rfl⟩;have hh':((i:Int)+(j:Int)) / 2=(h:Int):=by omega
   have c1:(h:Int) < (N:Int):=by omega
   have c2:(a:Int) < (N:Int):=by omega
   have p1:=PZ.out h (by omega) (by omega);obtain ⟨z,hz⟩:∃ z,Z[h - m]! =z:=⟨_,rfl⟩;rw [hz] at p1;have P1:=hid p1;have HZ1:=hid hz;have HHH:=hid hh;clear p1 hz hh;go_wp2_with fail;refine Org.begin [] (SWL enc w0 blk off N (A++(x::(Z++S)))) [0,1,2,3,4,5,6,7,8,9,10] (by kernel_rfl) (HS.out.drew) (fun hS=> ?_);iterate 4 (refine Org.yV (SM.of hS) ?_;try simp only [aS,aN,aA,a0,a1])
   (refine Org.yA (v:= ?_) (SM.of hS) ?_ ?_;rotate_left;(focus (intro w hSw;(try dsimp only at hSw);refine Pure.val ?_;refine (Zz08 28 (.tmp 43) rfl (by go_simp;first | done | rfl) (SWL.ld hSw R P1.out)).trans ?_;with_reducible rfl));try simp only [aS,aN,aA,a0,a1]);iterate 3 (refine Org.yV (SM.of hS) ?_;try simp only [aS,aN,aA,a0,a1])
   (refine Org.yA (v:= ?_) (SM.of hS) ?_ ?_;rotate_left;(focus (intro w hSw;(try dsimp only at hSw);refine Pure.val ?_;refine (Zz08 28 (.tmp 47) rfl (by go_simp;first | done | rfl) (SWL.ld hSw R PX.out)).trans ?_;with_reducible rfl));try simp only [aS,aN,aA,a0,a1]);refine Org.gA fun K hK=> ?_
   go_simp
   first
    | (go_at_fn g)
    | skip
   refine ((SWL.cmp0 hS HC.out z x)).mono ?_;rintro e wz ⟨rfl,hS3⟩;go_wp2_with fail;refine hK.out _ _ hS3 (fun hS2=> ?_);clear hS3;clear hK K hS;have hS:=hS2;clear hS2;try simp only [aS,aN,aA,a0,a1]
   (refine Org.yV (SM.of hS) ?_;try simp only [aS,aN,aA,a0,a1]);refine Org.done (by kernel_rfl) ?_;skip;have HS3:=hid hS;clear HS hS;have hh:=HHH.out;by_cases hlv:cf z x < 0
   ·go_wp2_with fail
    go_roundw
    case rel=>
     refine ⟨h+1,j,by go_num,rfl,by omega,by omega,by omega,HS3.out,⟨.inr ?_,HF.out.2⟩⟩;rw [show h+1 - 1 - m=h - m by omega,HZ1.out];exact hlv
    case measure=>simp [intOf] <;> omega
   ·go_wp2_with fail
    go_roundw
    case rel=>exact ⟨i,h,rfl,rfl,hmi,by omega,by omega,HS3.out,⟨HF.out.1,.inr (by rw [HZ1.out];omega)⟩⟩
    case measure=>simp [intOf] <;> omega
  ·have hlt':¬ (i:Int) < (j:Int):=by omega
   obtain rfl:i=j:=by omega
   have hone:mrg (fun x y=>decide (cf x y < 0)) [x] Z=Z.take (i - m)++x::Z.drop (i - m):=by
    refine Zzf7 HO.out HZ.out (by have:=HB.out;omega) ?_ ?_
    ·rcases HF.out.2 with h | h
     ·exact .inl (by have:=HB.out;omega)
     ·exact .inr (by simpa using h)
    ·rcases HF.out.1 with h | h
     ·exact .inl (by omega)
     ·exact .inr (by rw [show i - m - 1=i - 1 - m by omega];simpa using h)
   have HONE:=hid hone;clear hone;obtain ⟨i1,hi1⟩:∃ i1,i - 1=i1:=⟨_,rfl⟩;have hi1':(i:Int) - 1=(i1:Int):=by omega
   have HI1:=hid hi1;clear hi1;obtain ⟨wl,hwl⟩:∃ wl,wl=wr:=⟨_,rfl⟩;rw [← hwl] at HS ⊢;clear hwl;go_wp2_with fail;go_loopw [13] (fun vk wr=>∃ (k:Nat),vk= .int .i64 (k:Int)∧a≤k∧k≤i1∧SWL enc w0 blk off N (A++(Z.take (k - a)++(x::(Z.drop (k - a)++S)))) wr) (fun k _=>i1 - (intOf k).toNat)
   case atStart=>exact ⟨a,rfl,ZnR _,by have:=HI1.out;omega,by simpa using HS.out⟩
   case round=>
    obtain ⟨k,rfl,hak,hki,hs⟩:=hrel;clear HS;have HS:=hid hs;clear hs;have hi1:=HI1.out;by_cases hlt:k < i1
    ·have hlt'':(k:Int) < (i1:Int):=by omega
     obtain ⟨ia,hia⟩:∃ ia,ia=k:=⟨_,rfl⟩;subst hia;obtain ⟨ib,hib⟩:∃ ib,ia+1=ib:=⟨_,rfl⟩;obtain ⟨z,hz1,hz2⟩:∃ z,Z.drop (ia - a)=z::Z.drop (ia - a+1)∧Z.take (ia - a+1)=Z.take (ia - a)++ [z]:=by
      have:ia - a < Z.length:=by have:=HB.out;omega
      exact ⟨Z[ia - a],List.drop_eq_getElem_cons this,ZtS this⟩
     have hs:=HS.out;rw [hz1] at hs;clear HS;have HS:=hid hs;have HZ2:=hid hz2;clear hs hz1 hz2;have hl:A++(Z.take (ia - a)++(x::(z::Z.drop (ia - a+1)++S)))=(A++Z.take (ia - a))++x::([]++z::(Z.drop (ia - a+1)++S)):=by simp
     have hA':(A++Z.take (ia - a)).length=ia:=by have:=HA.out;have:=HB.out;simp;omega
     have hM':ia+1+([]:List α).length=ib:=by simpa using hib
     have HLL:=hid hl;have HA':=hid hA';have HM':=hid hM';have ci:(ib:Int) < (N:Int):=by omega
     have ci1:(ia:Int) < (N:Int):=by omega
     have c6:IntKind.i64.wrap ((ia:Int)+1)=(ib:Int):=by rw [IntKind.wrap_i64];omega
     clear hl hA' hM' hib;go_wp2_with fail;have hl:=HLL.out;have hA':=HA'.out;have hM':=HM'.out;have hx:=SWL.pre R HS.out hl hA';have hy:=SWL.pre R HS.out (A:=(A++Z.take (ia - a))++x::([]:List α)) (S:=(Z.drop (ia - a+1)++S)) (x:=z) (i:=ib) (by rw [hl];simp) (by simp at hA' hM' ⊢;omega);have hst:=HS.out.sts R hx hy;have hexc:=HS.out.exch R hl hA' hM';have hl1:=HS.out.drew.ld R hx;have hl2':=HS.out.drew.ld R hy;have HE:=hid hexc.1;have hxn:(enc x).length=8:=R.hk x;have hyn:(enc z).length=8:=R.hk z;have hxn1:(enc x).toArray.all (·.oneCell')=true:=by simpa using h1 x
     have hyn1:(enc z).toArray.all (·.oneCell')=true:=by simpa using h1 z
     clear hx hy hl hA' hM' hexc;obtain ⟨ex,hexx⟩:∃ c,c=enc x:=⟨_,rfl⟩;obtain ⟨ey,heyy⟩:∃ c,c=enc z:=⟨_,rfl⟩;rw [← hexx] at hl1 hxn hxn1 HE;rw [← heyy] at hl2' hyn hyn1 HE hst;clear hexx heyy;obtain ⟨wq,hwq⟩:∃ wq,wq=wr:=⟨_,rfl⟩;rw [← hwq] at hl1 hl2' hst HE ⊢;clear HS hwq;refine Org.begin [15,17] (fun w'=>w'=wq.drew) [0,1,2,3,4,5,6,7,8,9,10,11,12,13,14,15,16,17] (by kernel_rfl) (rfl) (fun hS=> ?_);iterate 2 (refine Org.yV (SM.of hS) ?_;try simp only [aS,aN,aA,a0,a1])
     iterate 3 (refine Org.fA (v:= ?_) (SM.of hS) ?_ ?_;rotate_left;(focus (intro w;refine Pure.val ?_;go_simp;(try with_reducible rfl);done));try simp only [aS,aN,aA,a0,a1])
     iterate 4 (refine Org.yV (SM.of hS) ?_;try simp only [aS,aN,aA,a0,a1])
     (refine Org.yA (v:= ?_) (SM.of hS) ?_ ?_;rotate_left;(focus (intro w hSw;(try dsimp only at hSw);rw [hSw];refine Pure.val ?_;refine (Zz08 28 (.tmp 69) rfl (by go_simp;first | done | rfl) hl2').trans ?_;with_reducible rfl));try simp only [aS,aN,aA,a0,a1]);iterate 3 (refine Org.fA (v:= ?_) (SM.of hS) ?_ ?_;rotate_left;(focus (intro w;refine Pure.val ?_;go_simp;(try with_reducible rfl);done));try simp only [aS,aN,aA,a0,a1])
     (refine Org.yA (v:= ?_) (SM.of hS) ?_ ?_;rotate_left;(focus (intro w hSw;(try dsimp only at hSw);rw [hSw];refine Pure.val ?_;refine (Zz08 28 (.tmp 73) rfl (by go_simp;first | done | rfl) hl1).trans ?_;with_reducible rfl));try simp only [aS,aN,aA,a0,a1]);(refine Org.yV (SM.of hS) ?_;try simp only [aS,aN,aA,a0,a1]);refine Org.mark (p:=15) rfl (by kernel_rfl) (by kernel_rfl) (by kernel_rfl) (by kernel_rfl) (fun K hK=> ?_);refine wp_store_mid 28 (.tmp 75) (.tmp 70) rfl blk (off+ia*8) (ey).toArray (by go_simp;first | done | rfl) (by go_simp;first | done | rfl) (by rw [show (ey).toArray.size=8 by simp [hyn]];exact hst.1) (by rw [show (ey).toArray.size=8 by simp [hyn]];exact R.size) hyn1 ?_
     refine hK.out _ _ ?_;clear hK K hS;try simp only [aS,aN,aA,a0,a1]
     (refine Org.fA (v:= ?_) (SM.past (p:=15) (by kernel_rfl) (by kernel_rfl)) ?_ ?_;rotate_left;(focus (intro w;refine Pure.val ?_;go_simp;(try with_reducible rfl);done));try simp only [aS,aN,aA,a0,a1]);refine Org.mark (p:=15) rfl (by kernel_rfl) (by kernel_rfl) (by kernel_rfl) (by kernel_rfl) (fun K hK=> ?_);refine wp_store_mid 28 (.tmp 76) (.tmp 74) rfl blk (off+ib*8) (ex).toArray (by go_simp;first | done | rfl) (by go_simp;first | done | rfl) (by rw [show (ex).toArray.size=8 by simp [hxn]];exact hst.2) (by rw [show (ex).toArray.size=8 by simp [hxn]];exact R.size) hxn1 ?_;refine hK.out _ _ ?_;clear hK K;try simp only [aS,aN,aA,a0,a1]
     refine Org.done (by kernel_rfl) ?_;skip;clear c6;go_wp2_with fail;go_roundw
     case rel=>exact ⟨ia+1,by go_num,by omega,by omega,by rw [show ia+1 - a=ia - a+1 by omega,HZ2.out];have:=HE.out;simpa using this⟩
     case measure=>simp [intOf] <;> omega
    ·have hlt'':¬ (k:Int) < (i1:Int):=by omega
     obtain rfl:k=i1:=by omega
     go_wp2_with fail;refine bodyPost_ret (results_none rfl _ _ _) rfl ?_;refine ⟨rfl,?_⟩;have:=HS.out
     rw [HONE.out,show i - m=k - a by have:=HM.out;omega];simpa using this
theorem ssymBM (ho:SOrd fun x y=>decide (cf x y < 0)) (R:RowL Tryz.prog 28 enc w0 blk off N) (hN:N≤1048576) (h1:∀ x,∀ v∈enc x,v.oneCell'=true) (eg:∀ args w,(callFunc g args).run Tryz.prog w= .ok (.enter g args) w) (hC:CmpLays Tryz.prog g #[] enc 8 cf blk off N w0) {A L S:List α} {x:α} {a m b:Nat} (h:SWL enc w0 blk off N (A++(L++(x::S))) W) (ha:A.length=a) (hm:a+L.length=m) (hb:m+1=b) (ham:a+1 < m) (hL:Srt (fun x y=>decide (cf x y < 0)) L):
  Calls Tryz.prog 141 #[.slice (some ⟨blk,off,none⟩) N cap,.int .i64 a,.int .i64 m,.int .i64 b,.func (.func g) #[] #[]] W fun e w'=>e= .returned (.tuple #[])∧SWL enc w0 blk off N (A++(mrg (fun x y=>decide (cf x y < 0)) L [x]++S)) w':=by
 have hbN:b≤N:=by have:=h.1;simp only [List.length_append,List.length_cons] at this;omega
 have HA:=hid ha;have HM:=hid hm;have HB:=hid hb;have HH:=hid h;have HC:=hid hC;have HZ:=hid hL;have HO:=hid ho;obtain ⟨ma,hma⟩:∃ ma,m - a=ma:=⟨_,rfl⟩;have t0:(m:Int) - (a:Int)=(ma:Int):=by omega
 have t0':¬ (ma:Int)=1:=by omega
 have t0'':((ma:Int)==1)=false:=by simpa using t0'
 have t1:(b:Int) - (m:Int)=1:=by omega
 have px:=SWL.pre R h (A:=A++L) (S:=S) (x:=x) (i:=m) (by simp) (by simp;omega);have PX:=hid px;have pz:∀ i,a≤i→i < m→(A++(L++(x::S)))[i]? =some (L[i - a]!):=fun i h1 h2=>by
  rw [List.getElem?_append_right (by omega),show i - A.length=i - a by omega,List.getElem?_append_left (by omega),getElem!_pos L (i - a) (by omega),ZgE]
 have PZ:=hid pz;clear h ha hm hb hC px pz hL ho hma;go_enter Tryz.func141,Tryz.ntmps141;go_wp2_with fail;go_loopw [14,15] (fun vi vj wr=>∃ (i j:Nat),vi= .int .i64 (i:Int)∧vj= .int .i64 (j:Int)∧a≤i∧i≤j∧j≤m∧SWL enc w0 blk off N (A++(L++(x::S))) wr∧Hid ((i=a∨0≤cf x (L[i - 1 - a]!))∧(j=m∨cf x (L[j - a]!) < 0))) (fun i j _=>(intOf j).toNat - (intOf i).toNat)
 case atStart=>exact ⟨a,m,rfl,rfl,ZnR _,by omega,ZnR _,HH.out,⟨.inl rfl,.inl rfl⟩⟩
 case round=>
  obtain ⟨i,j,rfl,rfl,hmi,hij,hjb,hs,HF⟩:=hrel;have HS:=hid hs;clear hs;by_cases hlt:i < j
  ·have hlt':(i:Int) < (j:Int):=by omega
   obtain ⟨h,hh⟩:∃ h,(i+j) / 2=h:=⟨_,rfl⟩;have hh':((i:Int)+(j:Int)) / 2=(h:Int):=by omega
   have c1:(h:Int) < (N:Int):=by omega
   have c2:(m:Int) < (N:Int):=by have:=HB.out;omega
   have p1:=PZ.out h (by omega) (by omega);obtain ⟨z,hz⟩:∃ z,L[h - a]! =z:=⟨_,rfl⟩;rw [hz] at p1;have P1:=hid p1;have HZ1:=hid hz;have HHH:=hid hh;clear p1 hz hh;go_wp2_with fail;refine Org.begin [] (SWL enc w0 blk off N (A++(L++(x::S)))) [0,1,2,3,4,5,6,7,8,9,10,11] (by kernel_rfl) (HS.out.drew) (fun hS=> ?_);iterate 4 (refine Org.yV (SM.of hS) ?_;try simp only [aS,aN,aA,a0,a1])
   (refine Org.yA (v:= ?_) (SM.of hS) ?_ ?_;rotate_left;(focus (intro w hSw;(try dsimp only at hSw);refine Pure.val ?_;refine (Zz08 28 (.tmp 95) rfl (by go_simp;first | done | rfl) (SWL.ld hSw R PX.out)).trans ?_;with_reducible rfl));try simp only [aS,aN,aA,a0,a1]);iterate 3 (refine Org.yV (SM.of hS) ?_;try simp only [aS,aN,aA,a0,a1])
   (refine Org.yA (v:= ?_) (SM.of hS) ?_ ?_;rotate_left;(focus (intro w hSw;(try dsimp only at hSw);refine Pure.val ?_;refine (Zz08 28 (.tmp 99) rfl (by go_simp;first | done | rfl) (SWL.ld hSw R P1.out)).trans ?_;with_reducible rfl));try simp only [aS,aN,aA,a0,a1]);refine Org.gA fun K hK=> ?_
   go_simp
   first
    | (go_at_fn g)
    | skip
   refine ((SWL.cmp0 hS HC.out x z)).mono ?_;rintro e wz ⟨rfl,hS3⟩;go_wp2_with fail;refine hK.out _ _ hS3 (fun hS2=> ?_);clear hS3;clear hK K hS;have hS:=hS2;clear hS2;try simp only [aS,aN,aA,a0,a1]
   iterate 2 (refine Org.yV (SM.of hS) ?_;try simp only [aS,aN,aA,a0,a1])
   refine Org.done (by kernel_rfl) ?_;skip;have HS3:=hid hS;clear HS hS;have hh:=HHH.out;by_cases hlv:cf x z < 0
   ·go_wp2_with fail
    ·rename_i hx
     simp [hlv] at hx
    go_roundw
    case rel=>exact ⟨i,h,rfl,rfl,hmi,by omega,by omega,HS3.out,⟨HF.out.1,.inr (by rw [HZ1.out];exact hlv)⟩⟩
    case measure=>simp [intOf] <;> omega
   ·go_wp2_with fail
    rotate_left
    ·rename_i hx
     exfalso
     revert hx
     simp only [Bool.not_eq_false',decide_eq_true_eq];omega
    go_roundw
    case rel=>
     refine ⟨h+1,j,by go_num,rfl,by omega,by omega,by omega,HS3.out,⟨.inr ?_,HF.out.2⟩⟩;rw [show h+1 - 1 - a=h - a by omega,HZ1.out];omega
    case measure=>simp [intOf] <;> omega
  ·have hlt':¬ (i:Int) < (j:Int):=by omega
   obtain rfl:i=j:=by omega
   have hone:mrg (fun x y=>decide (cf x y < 0)) L [x]=L.take (i - a)++x::L.drop (i - a):=by
    refine Zzfk HO.out HZ.out (by have:=HM.out;omega) ?_ ?_
    ·rcases HF.out.1 with h | h
     ·exact .inl (by omega)
     ·exact .inr (by rw [show i - a - 1=i - 1 - a by omega];simpa using h)
    ·rcases HF.out.2 with h | h
     ·exact .inl (by have:=HM.out;omega)
     ·exact .inr (by simpa using h)
   have HONE:=hid hone;clear hone;obtain ⟨wl,hwl⟩:∃ wl,wl=wr:=⟨_,rfl⟩;rw [← hwl] at HS ⊢;clear hwl;go_wp2_with fail;go_loopw [17] (fun vk wr=>∃ (k:Nat),vk= .int .i64 (k:Int)∧i≤k∧k≤m∧SWL enc w0 blk off N (A++(L.take (k - a)++(x::(L.drop (k - a)++S)))) wr) (fun k _=>(intOf k).toNat)
   case atStart=>exact ⟨m,rfl,by omega,ZnR _,by rw [ZtL (by have:=HM.out;omega),List.drop_eq_nil_of_le (by have:=HM.out;omega)];simpa using HS.out⟩
   case round=>
    obtain ⟨k,rfl,hak,hki,hs⟩:=hrel;clear HS;have HS:=hid hs;clear hs;by_cases hlt:i < k
    ·obtain ⟨ia,rfl⟩:∃ ia,k=ia+1:=⟨k - 1,by omega⟩
     obtain ⟨ib,hib⟩:∃ ib,ia+1=ib:=⟨_,rfl⟩;obtain ⟨z,hz1,hz2⟩:∃ z,L.drop (ia - a)=z::L.drop (ia+1 - a)∧L.take (ia+1 - a)=L.take (ia - a)++ [z]:=by
      have:ia - a < L.length:=by have:=HM.out;omega
      rw [show ia+1 - a=ia - a+1 by omega];exact ⟨L[ia - a],List.drop_eq_getElem_cons this,ZtS this⟩
     have hs:=HS.out;rw [hz2] at hs;clear HS;have HS:=hid hs;have HZ1:=hid hz1;clear hs hz1 hz2;have hl:A++(L.take (ia - a)++ [z]++(x::(L.drop (ia+1 - a)++S)))=(A++L.take (ia - a))++z::([]++x::(L.drop (ia+1 - a)++S)):=by simp
     have hA':(A++L.take (ia - a)).length=ia:=by have:=HA.out;have:=HM.out;simp;omega
     have hM':ia+1+([]:List α).length=ib:=by simpa using hib
     have HLL:=hid hl;have HA':=hid hA';have HM':=hid hM';have ci:(ib:Int) < (N:Int):=by have:=HB.out;omega
     have ci1:(ia:Int) < (N:Int):=by have:=HB.out;omega
     have c4:(ia:Int)+1=(ib:Int):=by omega
     have c5:(i:Int) < (ib:Int):=by omega
     have c6:IntKind.i64.wrap ((ib:Int) - 1)=(ia:Int):=by rw [IntKind.wrap_i64];omega
     clear hl hA' hM' hib;go_wp2_with fail;have hl:=HLL.out;have hA':=HA'.out;have hM':=HM'.out;have hx:=SWL.pre R HS.out hl hA';have hy:=SWL.pre R HS.out (A:=(A++L.take (ia - a))++z::([]:List α)) (S:=(L.drop (ia+1 - a)++S)) (x:=x) (i:=ib) (by rw [hl];simp) (by simp at hA' hM' ⊢;omega);have hst:=HS.out.sts R hy hx;have hexc:=HS.out.exch R hl hA' hM';have hl1:=HS.out.drew.ld R hx;have hl2':=HS.out.drew.ld R hy;have HE:=hid hexc.2;have hxn:(enc z).length=8:=R.hk z;have hyn:(enc x).length=8:=R.hk x;have hxn1:(enc z).toArray.all (·.oneCell')=true:=by simpa using h1 z
     have hyn1:(enc x).toArray.all (·.oneCell')=true:=by simpa using h1 x
     clear hx hy hl hA' hM' hexc;obtain ⟨ex,hexx⟩:∃ c,c=enc z:=⟨_,rfl⟩;obtain ⟨ey,heyy⟩:∃ c,c=enc x:=⟨_,rfl⟩;rw [← hexx] at hl1 hxn hxn1 HE hst;rw [← heyy] at hl2' hyn hyn1 HE;clear hexx heyy;obtain ⟨wq,hwq⟩:∃ wq,wq=wr:=⟨_,rfl⟩;rw [← hwq] at hl1 hl2' hst HE ⊢;clear HS hwq;refine Org.begin [15,17] (fun w'=>w'=wq.drew) [0,1,2,3,4,5,6,7,8,9,10,11,12,13,14,15,16,17] (by kernel_rfl) (rfl) (fun hS=> ?_);iterate 2 (refine Org.yV (SM.of hS) ?_;try simp only [aS,aN,aA,a0,a1])
     iterate 3 (refine Org.fA (v:= ?_) (SM.of hS) ?_ ?_;rotate_left;(focus (intro w;refine Pure.val ?_;go_simp;(try with_reducible rfl);done));try simp only [aS,aN,aA,a0,a1])
     iterate 4 (refine Org.yV (SM.of hS) ?_;try simp only [aS,aN,aA,a0,a1])
     (refine Org.yA (v:= ?_) (SM.of hS) ?_ ?_;rotate_left;(focus (intro w hSw;(try dsimp only at hSw);rw [hSw];refine Pure.val ?_;refine (Zz08 28 (.tmp 121) rfl (by go_simp;first | done | rfl) hl1).trans ?_;with_reducible rfl));try simp only [aS,aN,aA,a0,a1]);iterate 3 (refine Org.fA (v:= ?_) (SM.of hS) ?_ ?_;rotate_left;(focus (intro w;refine Pure.val ?_;go_simp;(try with_reducible rfl);done));try simp only [aS,aN,aA,a0,a1])
     (refine Org.yA (v:= ?_) (SM.of hS) ?_ ?_;rotate_left;(focus (intro w hSw;(try dsimp only at hSw);rw [hSw];refine Pure.val ?_;refine (Zz08 28 (.tmp 125) rfl (by go_simp;first | done | rfl) hl2').trans ?_;with_reducible rfl));try simp only [aS,aN,aA,a0,a1]);(refine Org.yV (SM.of hS) ?_;try simp only [aS,aN,aA,a0,a1]);refine Org.mark (p:=15) rfl (by kernel_rfl) (by kernel_rfl) (by kernel_rfl) (by kernel_rfl) (fun K hK=> ?_)
     refine wp_store_mid 28 (.tmp 127) (.tmp 122) rfl blk (off+ib*8) (ex).toArray (by go_simp;first | done | rfl) (by go_simp;first | done | rfl) (by rw [show (ex).toArray.size=8 by simp [hxn]];exact hst.1) (by rw [show (ex).toArray.size=8 by simp [hxn]];exact R.size) hxn1 ?_;refine hK.out _ _ ?_;clear hK K hS;try simp only [aS,aN,aA,a0,a1]
     (refine Org.fA (v:= ?_) (SM.past (p:=15) (by kernel_rfl) (by kernel_rfl)) ?_ ?_;rotate_left;(focus (intro w;refine Pure.val ?_;go_simp;(try with_reducible rfl);done));try simp only [aS,aN,aA,a0,a1]);refine Org.mark (p:=15) rfl (by kernel_rfl) (by kernel_rfl) (by kernel_rfl) (by kernel_rfl) (fun K hK=> ?_);refine wp_store_mid 28 (.tmp 128) (.tmp 126) rfl blk (off+ia*8) (ey).toArray (by go_simp;first | done | rfl) (by go_simp;first | done | rfl) (by rw [show (ey).toArray.size=8 by simp [hyn]];exact hst.2) (by rw [show (ey).toArray.size=8 by simp [hyn]];exact R.size) hyn1 ?_;refine hK.out _ _ ?_;clear hK K;try simp only [aS,aN,aA,a0,a1]
     refine Org.done (by kernel_rfl) ?_;skip;clear c6;go_wp2_with fail;go_roundw
     case rel=>exact ⟨ia,by go_num,by omega,by omega,by rw [HZ1.out];have:=HE.out;simpa using this⟩
     case measure=>simp [intOf] <;> omega
    ·have hlt'':¬ (i:Int) < (k:Int):=by omega
     obtain rfl:k=i:=by omega
     go_wp2_with fail;refine bodyPost_ret (results_none rfl _ _ _) rfl ?_;refine ⟨rfl,?_⟩;have:=HS.out
     rw [HONE.out];simpa using this
end Go.Proofs.YtnknjeipfjdjoaaGreatDoor
namespace Wells
open Go Go.RowKit Go.Sort Go.Proofs Go.Lib
variable {P:Program} {α:Type} [Inhabited α] {enc:α→List Value} {w0 W:World} {blk off N:Nat} {l:List α}
theorem Zz9x (a b:List Value):∀ (s:Nat) (F:Array Value),setMany F s (a++b)=setMany (setMany F s a) (s+a.length) b:=by
 induction a with
 | nil=>intro s F;rfl
 | cons v a ih=>
  intro s F;rw [List.cons_append,setMany,ih,setMany,List.length_cons,show s+(a.length+1)=s+1+a.length by omega]
theorem Zz9l (k:Nat) (hk:∀ x,(enc x).length=k) (d:Array α) (i:Nat) (hi:i < d.size) (x:α):setMany (flatK enc k d) (i*k) (enc x)=flatK enc k (d.setIfInBounds i x):=by
 refine ext_get! (by simp) fun t ht=> ?_
 have ht':t < d.size*k:=by simpa using ht
 have k0:0 < k:=by
  rcases Nat.eq_zero_or_pos k with h | h
  ·subst h;simp at ht'
  ·exact h
 rw [get_setMany _ _ _ t (by simpa using ht'),get_flatK _ _ _ t ht',get_flatK _ _ _ t (by simpa using ht'),hk];by_cases a:t / k=i
 ·rw [if_pos ((blk_iff k i t k0).2 a),a,getElem!_set_same d i x hi]
  congr 1
  subst a;rw [Nat.mod_eq_sub_div_mul]
 ·rw [if_neg (fun h=>a ((blk_iff k i t k0).1 h)),getElem!_set_other d i _ x a]
theorem Zz4h (k:Nat) (hk:∀ x,(enc x).length=k):∀ (L:List α) (d:Array α) (i:Nat),i+L.length≤d.size→
  ∃ d':Array α,setMany (flatK enc k d) (i*k) (L.flatMap enc)=flatK enc k d'∧d'.toList=d.toList.take i++(L++d.toList.drop (i+L.length))
 | [],d,i,_=>⟨d,rfl,by simp⟩
 | x::L,d,i,h=>by
  simp only [List.length_cons] at h;obtain ⟨d',h1,h2⟩:=Zz4h k hk L (d.setIfInBounds i x) (i+1) (by simp;omega);refine ⟨d',?_,?_⟩
  ·rw [List.flatMap_cons,Zz9x,Zz9l k hk d i (by omega) x,hk,← h1]
   congr 1
   rw [Nat.add_mul,Nat.one_mul]
  ·rw [h2,Array.toList_setIfInBounds]
   have hl:i < d.toList.length:=by simp;omega
   rw [List.take_set,List.drop_set,if_pos (by omega)];rw [ZtS hl];rw [List.set_append_right _ _ (by rw [List.length_take];omega),show i - (d.toList.take i).length=0 by rw [List.length_take];omega];simp only [List.set_cons_zero,List.append_assoc,List.singleton_append,List.length_cons,List.cons_append];rw [show i+1+L.length=i+(L.length+1) by omega];rfl
theorem SWK.row {k:Nat} {dk:Array α} (h:SWK enc k w0 blk off dk W) (hk:∀ x,(enc x).length=k) (hblk:blk < w0.heap.size) (L:List α) (i:Nat) (hi:i+L.length≤dk.size):
  ∃ d':Array α,SWK enc k w0 blk off d' (W.setCells blk (off+i*k) (L.flatMap enc))∧d'.toList=dk.toList.take i++(L++dk.toList.drop (i+L.length)):=by
 obtain ⟨d',h1,h2⟩:=Zz4h k hk L dk i hi;obtain ⟨n,os,rfl⟩:=h;refine ⟨d',⟨n,os,?_⟩,h2⟩;unfold sortWorldK;have hfl:(L.flatMap enc).length=L.length*k:=by
  clear h1 h2 hi;induction L with
  | nil=>simp
  | cons x L ih=>rw [List.flatMap_cons,List.length_append,hk,ih,List.length_cons,Nat.add_mul,Nat.one_mul];omega
 rw [setCells_grow _ _ _ _ _ (by rw [size_putRowK];exact hblk)];unfold putRowK;rw [setCells_putRow _ _ _ _ _ _ (by rw [hfl,size_flatK,← Nat.add_mul];exact Nat.mul_le_mul_right _ hi),h1]
theorem SWL.put {T:TypeId} (h:SWL enc w0 blk off N l W) (R:RowL P T enc w0 blk off N) {i:Nat} (hi:i < N) (x:α):SWL enc w0 blk off N (l.set i x) (W.setCells blk (off+i*8) (enc x)):=by
 obtain ⟨hl,dk,h1,h3⟩:=h;obtain ⟨d0,hd,R0⟩:=R.row;have hs:dk.size=N:=by rw [← Array.length_toList,h1,hl]
 obtain ⟨d',h4,h5⟩:=SWK.row h3 R0.hk R0.hblk [x] i (by simp;omega);refine ⟨by simp [hl],d',?_,by simpa using h4⟩;rw [h5,h1];rw [List.set_eq_take_append_cons_drop,if_pos (by omega)];simp
theorem SWL.zero {T:TypeId} (h:SWL enc w0 blk off N l W) (R:RowL P T enc w0 blk off N) {i:Nat} (hi:i≤N) (z:α):
  SWL enc w0 blk off N (l.take i++List.replicate (N - i) z) (W.setCells blk (off+i*8) ((List.replicate (N - i) z).flatMap enc)):=by
 obtain ⟨hl,dk,h1,h3⟩:=h;obtain ⟨d0,hd,R0⟩:=R.row;have hs:dk.size=N:=by rw [← Array.length_toList,h1,hl]
 obtain ⟨d',h4,h5⟩:=SWK.row h3 R0.hk R0.hblk (List.replicate (N - i) z) i (by simp;omega);refine ⟨by simp;omega,d',?_,h4⟩;rw [h5,h1,List.drop_eq_nil_of_le (by simp;omega),List.append_nil]
theorem Zzaj {zc:List Value} (h8:zc.length=8):∀ n,(List.range (n*8)).map (fun i=>zc.toArray[i % 8]!)=(List.replicate n ()).flatMap fun _=>zc
 | 0=>rfl
 | n+1=>by
  rw [Nat.add_mul,Nat.one_mul,List.range_add,List.map_append,Zzaj h8 n,List.replicate_succ',List.flatMap_append];congr 1
  rw [List.map_map];have e:∀ i,((fun i=>zc.toArray[i % 8]!) ∘ fun x=>n*8+x) i=zc.toArray[i % 8]! :=fun i=>by
   show zc.toArray[(n*8+i) % 8]! =_;rw [show (n*8+i) % 8=i % 8 by omega]
  rw [List.map_congr_left (fun i _=>e i)];match zc,h8 with
  | [c0,c1,c2,c3,c4,c5,c6,c7],_=>simp [List.range_succ]
theorem Zzbc {P:Program} (w:World) (t e ty:TypeId) (zv:Value) (zc:List Value) (ht:P.underlying t=some (.slice e)) (hv:∀ w,(zeroValue e).run P w= .ok zv w) (hz:zv.cells=zc.toArray) (h8:zc.length=8) (h1:∀ v∈zc,v.oneCell'=true) (b o n c:Nat) (hn:0 < n)
  (hc:∀ j,j < n*8→(w.cell? ⟨b,o+j,none⟩).isSome=true∧w.frozen? ⟨b,o+j,none⟩=false):
  (Builtin.clear_ #[t] ty #[.slice (some ⟨b,o,none⟩) n c]).run P w= .ok (.tuple #[]) (w.setCells b o ((List.replicate n ()).flatMap fun _=>zc)):=by
 have hzc:(Builtin.zeroCells zv.cells n).toList=(List.replicate n ()).flatMap fun _=>zc:=by
  rw [hz];simp only [Builtin.zeroCells,Array.toList_map,Array.toList_range,List.size_toArray,h8];exact Zzaj h8 n
 have hlen:((List.replicate n ()).flatMap fun _=>zc).length=n*8:=by simp [h8]
 have hst:=run_storeCells_cells (P:=P) b o ((List.replicate n ()).flatMap fun _=>zc) 0 w (by rw [hlen];intro j hj;simpa using (hc j hj).1) (by rw [hlen];intro j hj;simpa using (hc j hj).2) (by
  intro v hv';simp only [List.mem_flatMap] at hv';obtain ⟨_,_,hv'⟩:=hv';exact h1 v hv')
 simp only [Nat.add_zero] at hst;obtain ⟨m,rfl⟩:∃ m,n=m+1:=⟨n - 1,by omega⟩;simp [Builtin.clear_,run_underlying ht,hv,hzc,hst]
theorem SWL.ld' {T:TypeId} (h:SWL enc w0 blk off N l W) (R:RowL P T enc w0 blk off N) {i ad:Nat} {x:α} (hi:l[i]? =some x) (ha:ad=off+i*8):
  (Instr.loadAt T (.pointer (some ⟨blk,ad,none⟩))).run P W= .ok (.agg (enc x).toArray) W:=by subst ha;exact h.ld R hi
def EqL (P:Program) (ge:Nat) (enc:α→List Value) (lt:α→α→Bool) (w0:World) (blk off N:Nat):Prop:=
 ∀ (l:List α) (W:World),SWL enc w0 blk off N l W→∀ x y,Calls P ge #[.agg (enc x).toArray,.agg (enc y).toArray] W fun e w'=>e= .returned (.bool (eqv lt x y))∧SWL enc w0 blk off N l w'
def CptR (enc:α→List Value) (w0:World) (blk off N cap:Nat) (lt:α→α→Bool) (l:List α) (e:Ending) (w':World):Prop:=
 ∃ (l':List α) (n:Nat),e= .returned (.slice (some ⟨blk,off,none⟩) n cap)∧SWL enc w0 blk off N l' w'∧n=(cpt lt l).length∧l'.take n=cpt lt l∧n≤N
theorem Zzdo (z:α) (n:Nat):((List.replicate n ()).flatMap fun _=>enc z)=(List.replicate n z).flatMap enc:=by
 induction n with
 | zero=>rfl
 | succ n ih=>rw [List.replicate_succ,List.replicate_succ,List.flatMap_cons,List.flatMap_cons,ih]
theorem getD_some {i:Nat} (h:i < l.length):l[i]? =some (l[i]!):=by rw [getElem!_pos l i h,ZgE]
end Wells
