/- StbRa StbRb StbRc CptR -/
import Derived.Test.YtnknjeipfjdjoaaGreatDoorProg
import Derived.BigGuardPart
import Derived.Deep.DeepCutAuto
import Derived.Test.YtnknjeipfjdjoaaGreatDoorBScanTells23
set_option maxHeartbeats 8000000
set_option maxRecDepth 20000
set_option linter.unusedSimpArgs false
set_option linter.unusedVariables false
set_option linter.unusedSectionVars false
namespace Go.Proofs.YtnknjeipfjdjoaaGreatDoor
open Go.RowKit Wells Go.Sort Go.Lib
variable {α:Type} [Inhabited α] {enc:α→List Value} {w0 W:World} {blk off N cap:Nat} {l:List α} {g:Nat} {cf:α→α→Int}
theorem ssymAR (ho:SOrd fun x y=>decide (cf x y < 0)) (R:RowL Tryz.prog 73 enc w0 blk off N) (hN:N≤1048576) (h1:∀ x,∀ v∈enc x,v.oneCell'=true) (eg:∀ args w,(callFunc g args).run Tryz.prog w= .ok (.enter g args) w) (hC:CmpLays Tryz.prog g #[] enc 8 cf blk off N w0) {A Z S:List α} {x:α} {a m b:Nat} (h:SWL enc w0 blk off N (A++(x::(Z++S))) W) (ha:A.length=a) (hm:a+1=m) (hb:m+Z.length=b) (hmb:m < b) (hZ:Srt (fun x y=>decide (cf x y < 0)) Z):
  Calls Tryz.prog 114 #[.slice (some ⟨blk,off,none⟩) N cap,.int .i64 a,.int .i64 m,.int .i64 b,.func (.func g) #[] #[]] W fun e w'=>e= .returned (.tuple #[])∧SWL enc w0 blk off N (A++(mrg (fun x y=>decide (cf x y < 0)) [x] Z++S)) w':=by
 have hbN:b≤N:=by have:=h.1;simp only [List.length_append,List.length_cons] at this;omega
 have HA:=hid ha;have HM:=hid hm;have HB:=hid hb;have HH:=hid h;have HC:=hid hC;have HZ:=hid hZ;have HO:=hid ho;have t1:(m:Int) - (a:Int)=1:=by omega
 have ham:a < m:=by omega
 have px:=SWL.pre R h (A:=A) (S:=Z++S) (x:=x) (i:=a) rfl ha;have PX:=hid px;have pz:∀ i,m≤i→i < b→(A++(x::(Z++S)))[i]? =some (Z[i - m]!):=fun i h1 h2=>by
  rw [List.getElem?_append_right (by omega),show i - A.length=(i - m)+1 by omega,ZgS,List.getElem?_append_left (by omega),getElem!_pos Z (i - m) (by omega),ZgE]
 have PZ:=hid pz;clear h ha hm hb hC px pz hZ ho;go_enter Tryz.func114,Tryz.ntmps114;go_wp2_with fail;go_loopw [10,11] (fun vi vj wr=>∃ (i j:Nat),vi= .int .i64 (i:Int)∧vj= .int .i64 (j:Int)∧m≤i∧i≤j∧j≤b∧SWL enc w0 blk off N (A++(x::(Z++S))) wr∧Hid ((i=m∨cf (Z[i - 1 - m]!) x < 0)∧(j=b∨0≤cf (Z[j - m]!) x))) (fun i j _=>(intOf j).toNat - (intOf i).toNat)
 case atStart=>exact ⟨m,b,rfl,rfl,ZnR _,by omega,ZnR _,HH.out,⟨.inl rfl,.inl rfl⟩⟩
 case round=>
  obtain ⟨i,j,rfl,rfl,hmi,hij,hjb,hs,HF⟩:=hrel;have HS:=hid hs;clear hs;by_cases hlt:i < j
  ·have hlt':(i:Int) < (j:Int):=by omega
   obtain ⟨h,hh⟩:∃ h,(i+j) / 2=h:=⟨_,rfl⟩;have hh':((i:Int)+(j:Int)) / 2=(h:Int):=by omega
   have c1:(h:Int) < (N:Int):=by omega
   have c2:(a:Int) < (N:Int):=by omega
   have p1:=PZ.out h (by omega) (by omega);obtain ⟨z,hz⟩:∃ z,Z[h - m]! =z:=⟨_,rfl⟩;rw [hz] at p1;have P1:=hid p1;have HZ1:=hid hz;have HHH:=hid hh;clear p1 hz hh;go_wp2_with fail;refine Org.begin [] (SWL enc w0 blk off N (A++(x::(Z++S)))) [0,1,2,3,4,5,6,7,8,9,10] (by kernel_rfl) (HS.out.drew) (fun hS=> ?_);iterate 4 (refine Org.yV (SM.of hS) ?_;try simp only [aS,aN,aA,a0,a1])
   (refine Org.yA (v:= ?_) (SM.of hS) ?_ ?_;rotate_left;(focus (intro w hSw;(try dsimp only at hSw);refine Pure.val ?_;refine (Zz08 73 (.tmp 43) rfl (by go_simp;first | done | rfl) (SWL.ld hSw R P1.out)).trans ?_;with_reducible rfl));try simp only [aS,aN,aA,a0,a1]);iterate 3 (refine Org.yV (SM.of hS) ?_;try simp only [aS,aN,aA,a0,a1])
   (refine Org.yA (v:= ?_) (SM.of hS) ?_ ?_;rotate_left;(focus (intro w hSw;(try dsimp only at hSw);refine Pure.val ?_;refine (Zz08 73 (.tmp 47) rfl (by go_simp;first | done | rfl) (SWL.ld hSw R PX.out)).trans ?_;with_reducible rfl));try simp only [aS,aN,aA,a0,a1]);refine Org.gA fun K hK=> ?_
   go_simp
   first
    | (go_at_fn g)
    | skip
   refine ((SWL.cmp0 hS HC.out z x)).mono ?_;rintro e wz ⟨rfl,hS3⟩;go_wp2_with fail;refine hK.out _ _ hS3 (fun hS2=> ?_);clear hS3;clear hK K hS;have hS:=hS2;clear hS2;try simp only [aS,aN,aA,a0,a1]
   (refine Org.yV (SM.of hS) ?_;try simp only [aS,aN,aA,a0,a1]);refine Org.done (by kernel_rfl) ?_;skip;have HS3:=hid hS;clear HS hS;have hh:=HHH.out;by_cases hlv:cf z x < 0
   ·go_wp2_with fail
    go_roundw
    case rel=>
     refine ⟨h+1,j,by go_num,rfl,by omega,by omega,by omega,HS3.out,⟨.inr ?_,HF.out.2⟩⟩;rw [show h+1 - 1 - m=h - m by omega,HZ1.out];exact hlv
    case measure=>simp [intOf] <;> omega
   ·go_wp2_with fail
    go_roundw
    case rel=>exact ⟨i,h,rfl,rfl,hmi,by omega,by omega,HS3.out,⟨HF.out.1,.inr (by rw [HZ1.out];omega)⟩⟩
    case measure=>simp [intOf] <;> omega
  ·have hlt':¬ (i:Int) < (j:Int):=by omega
   obtain rfl:i=j:=by omega
   have hone:mrg (fun x y=>decide (cf x y < 0)) [x] Z=Z.take (i - m)++x::Z.drop (i - m):=by
    refine Zzf7 HO.out HZ.out (by have:=HB.out;omega) ?_ ?_
    ·rcases HF.out.2 with h | h
     ·exact .inl (by have:=HB.out;omega)
     ·exact .inr (by simpa using h)
    ·rcases HF.out.1 with h | h
     ·exact .inl (by omega)
     ·exact .inr (by rw [show i - m - 1=i - 1 - m by omega];simpa using h)
   have HONE:=hid hone;clear hone;obtain ⟨i1,hi1⟩:∃ i1,i - 1=i1:=⟨_,rfl⟩;have hi1':(i:Int) - 1=(i1:Int):=by omega
   have HI1:=hid hi1;clear hi1;obtain ⟨wl,hwl⟩:∃ wl,wl=wr:=⟨_,rfl⟩;rw [← hwl] at HS ⊢;clear hwl;go_wp2_with fail;go_loopw [13] (fun vk wr=>∃ (k:Nat),vk= .int .i64 (k:Int)∧a≤k∧k≤i1∧SWL enc w0 blk off N (A++(Z.take (k - a)++(x::(Z.drop (k - a)++S)))) wr) (fun k _=>i1 - (intOf k).toNat)
   case atStart=>exact ⟨a,rfl,ZnR _,by have:=HI1.out;omega,by simpa using HS.out⟩
   case round=>
    obtain ⟨k,rfl,hak,hki,hs⟩:=hrel;clear HS;have HS:=hid hs;clear hs;have hi1:=HI1.out;by_cases hlt:k < i1
    ·have hlt'':(k:Int) < (i1:Int):=by omega
     obtain ⟨ia,hia⟩:∃ ia,ia=k:=⟨_,rfl⟩;subst hia;obtain ⟨ib,hib⟩:∃ ib,ia+1=ib:=⟨_,rfl⟩;obtain ⟨z,hz1,hz2⟩:∃ z,Z.drop (ia - a)=z::Z.drop (ia - a+1)∧Z.take (ia - a+1)=Z.take (ia - a)++ [z]:=by
      have:ia - a < Z.length:=by have:=HB.out;omega
      exact ⟨Z[ia - a],List.drop_eq_getElem_cons this,ZtS this⟩
     have hs:=HS.out;rw [hz1] at hs;clear HS;have HS:=hid hs;have HZ2:=hid hz2;clear hs hz1 hz2;have hl:A++(Z.take (ia - a)++(x::(z::Z.drop (ia - a+1)++S)))=(A++Z.take (ia - a))++x::([]++z::(Z.drop (ia - a+1)++S)):=by simp
     have hA':(A++Z.take (ia - a)).length=ia:=by have:=HA.out;have:=HB.out;simp;omega
     have hM':ia+1+([]:List α).length=ib:=by simpa using hib
     have HLL:=hid hl;have HA':=hid hA';have HM':=hid hM';have ci:(ib:Int) < (N:Int):=by omega
     have ci1:(ia:Int) < (N:Int):=by omega
     have c6:IntKind.i64.wrap ((ia:Int)+1)=(ib:Int):=by rw [IntKind.wrap_i64];omega
     clear hl hA' hM' hib;go_wp2_with fail;have hl:=HLL.out;have hA':=HA'.out;have hM':=HM'.out;have hx:=SWL.pre R HS.out hl hA';have hy:=SWL.pre R HS.out (A:=(A++Z.take (ia - a))++x::([]:List α)) (S:=(Z.drop (ia - a+1)++S)) (x:=z) (i:=ib) (by rw [hl];simp) (by simp at hA' hM' ⊢;omega);have hst:=HS.out.sts R hx hy;have hexc:=HS.out.exch R hl hA' hM';have hl1:=HS.out.drew.ld R hx;have hl2':=HS.out.drew.ld R hy;have HE:=hid hexc.1;have hxn:(enc x).length=8:=R.hk x;have hyn:(enc z).length=8:=R.hk z;have hxn1:(enc x).toArray.all (·.oneCell')=true:=by simpa using h1 x
     have hyn1:(enc z).toArray.all (·.oneCell')=true:=by simpa using h1 z
     clear hx hy hl hA' hM' hexc;obtain ⟨ex,hexx⟩:∃ c,c=enc x:=⟨_,rfl⟩;obtain ⟨ey,heyy⟩:∃ c,c=enc z:=⟨_,rfl⟩;rw [← hexx] at hl1 hxn hxn1 HE;rw [← heyy] at hl2' hyn hyn1 HE hst;clear hexx heyy;obtain ⟨wq,hwq⟩:∃ wq,wq=wr:=⟨_,rfl⟩;rw [← hwq] at hl1 hl2' hst HE ⊢;clear HS hwq;refine Org.begin [15,17] (fun w'=>w'=wq.drew) [0,1,2,3,4,5,6,7,8,9,10,11,12,13,14,15,16,17] (by kernel_rfl) (rfl) (fun hS=> ?_);iterate 2 (refine Org.yV (SM.of hS) ?_;try simp only [aS,aN,aA,a0,a1])
     iterate 3 (refine Org.fA (v:= ?_) (SM.of hS) ?_ ?_;rotate_left;(focus (intro w;refine Pure.val ?_;go_simp;(try with_reducible rfl);done));try simp only [aS,aN,aA,a0,a1])
     iterate 4 (refine Org.yV (SM.of hS) ?_;try simp only [aS,aN,aA,a0,a1])
     (refine Org.yA (v:= ?_) (SM.of hS) ?_ ?_;rotate_left;(focus (intro w hSw;(try dsimp only at hSw);rw [hSw];refine Pure.val ?_;refine (Zz08 73 (.tmp 69) rfl (by go_simp;first | done | rfl) hl2').trans ?_;with_reducible rfl));try simp only [aS,aN,aA,a0,a1]);iterate 3 (refine Org.fA (v:= ?_) (SM.of hS) ?_ ?_;rotate_left;(focus (intro w;refine Pure.val ?_;go_simp;(try with_reducible rfl);done));try simp only [aS,aN,aA,a0,a1])
     (refine Org.yA (v:= ?_) (SM.of hS) ?_ ?_;rotate_left;(focus (intro w hSw;(try dsimp only at hSw);rw [hSw];refine Pure.val ?_;refine (Zz08 73 (.tmp 73) rfl (by go_simp;first | done | rfl) hl1).trans ?_;with_reducible rfl));try simp only [aS,aN,aA,a0,a1]);(refine Org.yV (SM.of hS) ?_;try simp only [aS,aN,aA,a0,a1]);refine Org.mark (p:=15) rfl (by kernel_rfl) (by kernel_rfl) (by kernel_rfl) (by kernel_rfl) (fun K hK=> ?_);refine wp_store_mid 73 (.tmp 75) (.tmp 70) rfl blk (off+ia*8) (ey).toArray (by go_simp;first | done | rfl) (by go_simp;first | done | rfl) (by rw [show (ey).toArray.size=8 by simp [hyn]];exact hst.1) (by rw [show (ey).toArray.size=8 by simp [hyn]];exact R.size) hyn1 ?_
     refine hK.out _ _ ?_;clear hK K hS;try simp only [aS,aN,aA,a0,a1]
     (refine Org.fA (v:= ?_) (SM.past (p:=15) (by kernel_rfl) (by kernel_rfl)) ?_ ?_;rotate_left;(focus (intro w;refine Pure.val ?_;go_simp;(try with_reducible rfl);done));try simp only [aS,aN,aA,a0,a1]);refine Org.mark (p:=15) rfl (by kernel_rfl) (by kernel_rfl) (by kernel_rfl) (by kernel_rfl) (fun K hK=> ?_);refine wp_store_mid 73 (.tmp 76) (.tmp 74) rfl blk (off+ib*8) (ex).toArray (by go_simp;first | done | rfl) (by go_simp;first | done | rfl) (by rw [show (ex).toArray.size=8 by simp [hxn]];exact hst.2) (by rw [show (ex).toArray.size=8 by simp [hxn]];exact R.size) hxn1 ?_;refine hK.out _ _ ?_;clear hK K;try simp only [aS,aN,aA,a0,a1]
     refine Org.done (by kernel_rfl) ?_;skip;clear c6;go_wp2_with fail;go_roundw
     case rel=>exact ⟨ia+1,by go_num,by omega,by omega,by rw [show ia+1 - a=ia - a+1 by omega,HZ2.out];have:=HE.out;simpa using this⟩
     case measure=>simp [intOf] <;> omega
    ·have hlt'':¬ (k:Int) < (i1:Int):=by omega
     obtain rfl:k=i1:=by omega
     go_wp2_with fail;refine bodyPost_ret (results_none rfl _ _ _) rfl ?_;refine ⟨rfl,?_⟩;have:=HS.out
     rw [HONE.out,show i - m=k - a by have:=HM.out;omega];simpa using this
theorem ssymBR (ho:SOrd fun x y=>decide (cf x y < 0)) (R:RowL Tryz.prog 73 enc w0 blk off N) (hN:N≤1048576) (h1:∀ x,∀ v∈enc x,v.oneCell'=true) (eg:∀ args w,(callFunc g args).run Tryz.prog w= .ok (.enter g args) w) (hC:CmpLays Tryz.prog g #[] enc 8 cf blk off N w0) {A L S:List α} {x:α} {a m b:Nat} (h:SWL enc w0 blk off N (A++(L++(x::S))) W) (ha:A.length=a) (hm:a+L.length=m) (hb:m+1=b) (ham:a+1 < m) (hL:Srt (fun x y=>decide (cf x y < 0)) L):
  Calls Tryz.prog 114 #[.slice (some ⟨blk,off,none⟩) N cap,.int .i64 a,.int .i64 m,.int .i64 b,.func (.func g) #[] #[]] W fun e w'=>e= .returned (.tuple #[])∧SWL enc w0 blk off N (A++(mrg (fun x y=>decide (cf x y < 0)) L [x]++S)) w':=by
 have hbN:b≤N:=by have:=h.1;simp only [List.length_append,List.length_cons] at this;omega
 have HA:=hid ha;have HM:=hid hm;have HB:=hid hb;have HH:=hid h;have HC:=hid hC;have HZ:=hid hL;have HO:=hid ho;obtain ⟨ma,hma⟩:∃ ma,m - a=ma:=⟨_,rfl⟩;have t0:(m:Int) - (a:Int)=(ma:Int):=by omega
 have t0':¬ (ma:Int)=1:=by omega
 have t0'':((ma:Int)==1)=false:=by simpa using t0'
 have t1:(b:Int) - (m:Int)=1:=by omega
 have px:=SWL.pre R h (A:=A++L) (S:=S) (x:=x) (i:=m) (by simp) (by simp;omega);have PX:=hid px;have pz:∀ i,a≤i→i < m→(A++(L++(x::S)))[i]? =some (L[i - a]!):=fun i h1 h2=>by
  rw [List.getElem?_append_right (by omega),show i - A.length=i - a by omega,List.getElem?_append_left (by omega),getElem!_pos L (i - a) (by omega),ZgE]
 have PZ:=hid pz;clear h ha hm hb hC px pz hL ho hma;go_enter Tryz.func114,Tryz.ntmps114;go_wp2_with fail;go_loopw [14,15] (fun vi vj wr=>∃ (i j:Nat),vi= .int .i64 (i:Int)∧vj= .int .i64 (j:Int)∧a≤i∧i≤j∧j≤m∧SWL enc w0 blk off N (A++(L++(x::S))) wr∧Hid ((i=a∨0≤cf x (L[i - 1 - a]!))∧(j=m∨cf x (L[j - a]!) < 0))) (fun i j _=>(intOf j).toNat - (intOf i).toNat)
 case atStart=>exact ⟨a,m,rfl,rfl,ZnR _,by omega,ZnR _,HH.out,⟨.inl rfl,.inl rfl⟩⟩
 case round=>
  obtain ⟨i,j,rfl,rfl,hmi,hij,hjb,hs,HF⟩:=hrel;have HS:=hid hs;clear hs;by_cases hlt:i < j
  ·have hlt':(i:Int) < (j:Int):=by omega
   obtain ⟨h,hh⟩:∃ h,(i+j) / 2=h:=⟨_,rfl⟩;have hh':((i:Int)+(j:Int)) / 2=(h:Int):=by omega
   have c1:(h:Int) < (N:Int):=by omega
   have c2:(m:Int) < (N:Int):=by have:=HB.out;omega
   have p1:=PZ.out h (by omega) (by omega);obtain ⟨z,hz⟩:∃ z,L[h - a]! =z:=⟨_,rfl⟩;rw [hz] at p1;have P1:=hid p1;have HZ1:=hid hz;have HHH:=hid hh;clear p1 hz hh;go_wp2_with fail;refine Org.begin [] (SWL enc w0 blk off N (A++(L++(x::S)))) [0,1,2,3,4,5,6,7,8,9,10,11] (by kernel_rfl) (HS.out.drew) (fun hS=> ?_);iterate 4 (refine Org.yV (SM.of hS) ?_;try simp only [aS,aN,aA,a0,a1])
   (refine Org.yA (v:= ?_) (SM.of hS) ?_ ?_;rotate_left;(focus (intro w hSw;(try dsimp only at hSw);refine Pure.val ?_;refine (Zz08 73 (.tmp 95) rfl (by go_simp;first | done | rfl) (SWL.ld hSw R PX.out)).trans ?_;with_reducible rfl));try simp only [aS,aN,aA,a0,a1]);iterate 3 (refine Org.yV (SM.of hS) ?_;try simp only [aS,aN,aA,a0,a1])
   (refine Org.yA (v:= ?_) (SM.of hS) ?_ ?_;rotate_left;(focus (intro w hSw;(try dsimp only at hSw);refine Pure.val ?_;refine (Zz08 73 (.tmp 99) rfl (by go_simp;first | done | rfl) (SWL.ld hSw R P1.out)).trans ?_;with_reducible rfl));try simp only [aS,aN,aA,a0,a1]);refine Org.gA fun K hK=> ?_
   go_simp
   first
    | (go_at_fn g)
    | skip
   refine ((SWL.cmp0 hS HC.out x z)).mono ?_;rintro e wz ⟨rfl,hS3⟩;go_wp2_with fail;refine hK.out _ _ hS3 (fun hS2=> ?_);clear hS3;clear hK K hS;have hS:=hS2;clear hS2;try simp only [aS,aN,aA,a0,a1]
   iterate 2 (refine Org.yV (SM.of hS) ?_;try simp only [aS,aN,aA,a0,a1])
   refine Org.done (by kernel_rfl) ?_;skip;have HS3:=hid hS;clear HS hS;have hh:=HHH.out;by_cases hlv:cf x z < 0
   ·go_wp2_with fail
    ·rename_i hx
     simp [hlv] at hx
    go_roundw
    case rel=>exact ⟨i,h,rfl,rfl,hmi,by omega,by omega,HS3.out,⟨HF.out.1,.inr (by rw [HZ1.out];exact hlv)⟩⟩
    case measure=>simp [intOf] <;> omega
   ·go_wp2_with fail
    rotate_left
    ·rename_i hx
     exfalso
     revert hx
     simp only [Bool.not_eq_false',decide_eq_true_eq];omega
    go_roundw
    case rel=>
     refine ⟨h+1,j,by go_num,rfl,by omega,by omega,by omega,HS3.out,⟨.inr ?_,HF.out.2⟩⟩;rw [show h+1 - 1 - a=h - a by omega,HZ1.out];omega
    case measure=>simp [intOf] <;> omega
  ·have hlt':¬ (i:Int) < (j:Int):=by omega
   obtain rfl:i=j:=by omega
   have hone:mrg (fun x y=>decide (cf x y < 0)) L [x]=L.take (i - a)++x::L.drop (i - a):=by
    refine Zzfk HO.out HZ.out (by have:=HM.out;omega) ?_ ?_
    ·rcases HF.out.1 with h | h
     ·exact .inl (by omega)
     ·exact .inr (by rw [show i - a - 1=i - 1 - a by omega];simpa using h)
    ·rcases HF.out.2 with h | h
     ·exact .inl (by have:=HM.out;omega)
     ·exact .inr (by simpa using h)
   have HONE:=hid hone;clear hone;obtain ⟨wl,hwl⟩:∃ wl,wl=wr:=⟨_,rfl⟩;rw [← hwl] at HS ⊢;clear hwl;go_wp2_with fail;go_loopw [17] (fun vk wr=>∃ (k:Nat),vk= .int .i64 (k:Int)∧i≤k∧k≤m∧SWL enc w0 blk off N (A++(L.take (k - a)++(x::(L.drop (k - a)++S)))) wr) (fun k _=>(intOf k).toNat)
   case atStart=>exact ⟨m,rfl,by omega,ZnR _,by rw [ZtL (by have:=HM.out;omega),List.drop_eq_nil_of_le (by have:=HM.out;omega)];simpa using HS.out⟩
   case round=>
    obtain ⟨k,rfl,hak,hki,hs⟩:=hrel;clear HS;have HS:=hid hs;clear hs;by_cases hlt:i < k
    ·obtain ⟨ia,rfl⟩:∃ ia,k=ia+1:=⟨k - 1,by omega⟩
     obtain ⟨ib,hib⟩:∃ ib,ia+1=ib:=⟨_,rfl⟩;obtain ⟨z,hz1,hz2⟩:∃ z,L.drop (ia - a)=z::L.drop (ia+1 - a)∧L.take (ia+1 - a)=L.take (ia - a)++ [z]:=by
      have:ia - a < L.length:=by have:=HM.out;omega
      rw [show ia+1 - a=ia - a+1 by omega];exact ⟨L[ia - a],List.drop_eq_getElem_cons this,ZtS this⟩
     have hs:=HS.out;rw [hz2] at hs;clear HS;have HS:=hid hs;have HZ1:=hid hz1;clear hs hz1 hz2;have hl:A++(L.take (ia - a)++ [z]++(x::(L.drop (ia+1 - a)++S)))=(A++L.take (ia - a))++z::([]++x::(L.drop (ia+1 - a)++S)):=by simp
     have hA':(A++L.take (ia - a)).length=ia:=by have:=HA.out;have:=HM.out;simp;omega
     have hM':ia+1+([]:List α).length=ib:=by simpa using hib
     have HLL:=hid hl;have HA':=hid hA';have HM':=hid hM';have ci:(ib:Int) < (N:Int):=by have:=HB.out;omega
     have ci1:(ia:Int) < (N:Int):=by have:=HB.out;omega
     have c4:(ia:Int)+1=(ib:Int):=by omega
     have c5:(i:Int) < (ib:Int):=by omega
     have c6:IntKind.i64.wrap ((ib:Int) - 1)=(ia:Int):=by rw [IntKind.wrap_i64];omega
     clear hl hA' hM' hib;go_wp2_with fail;have hl:=HLL.out;have hA':=HA'.out;have hM':=HM'.out;have hx:=SWL.pre R HS.out hl hA';have hy:=SWL.pre R HS.out (A:=(A++L.take (ia - a))++z::([]:List α)) (S:=(L.drop (ia+1 - a)++S)) (x:=x) (i:=ib) (by rw [hl];simp) (by simp at hA' hM' ⊢;omega);have hst:=HS.out.sts R hy hx;have hexc:=HS.out.exch R hl hA' hM';have hl1:=HS.out.drew.ld R hx;have hl2':=HS.out.drew.ld R hy;have HE:=hid hexc.2;have hxn:(enc z).length=8:=R.hk z;have hyn:(enc x).length=8:=R.hk x;have hxn1:(enc z).toArray.all (·.oneCell')=true:=by simpa using h1 z
     have hyn1:(enc x).toArray.all (·.oneCell')=true:=by simpa using h1 x
     clear hx hy hl hA' hM' hexc;obtain ⟨ex,hexx⟩:∃ c,c=enc z:=⟨_,rfl⟩;obtain ⟨ey,heyy⟩:∃ c,c=enc x:=⟨_,rfl⟩;rw [← hexx] at hl1 hxn hxn1 HE hst;rw [← heyy] at hl2' hyn hyn1 HE;clear hexx heyy;obtain ⟨wq,hwq⟩:∃ wq,wq=wr:=⟨_,rfl⟩;rw [← hwq] at hl1 hl2' hst HE ⊢;clear HS hwq;refine Org.begin [15,17] (fun w'=>w'=wq.drew) [0,1,2,3,4,5,6,7,8,9,10,11,12,13,14,15,16,17] (by kernel_rfl) (rfl) (fun hS=> ?_);iterate 2 (refine Org.yV (SM.of hS) ?_;try simp only [aS,aN,aA,a0,a1])
     iterate 3 (refine Org.fA (v:= ?_) (SM.of hS) ?_ ?_;rotate_left;(focus (intro w;refine Pure.val ?_;go_simp;(try with_reducible rfl);done));try simp only [aS,aN,aA,a0,a1])
     iterate 4 (refine Org.yV (SM.of hS) ?_;try simp only [aS,aN,aA,a0,a1])
     (refine Org.yA (v:= ?_) (SM.of hS) ?_ ?_;rotate_left;(focus (intro w hSw;(try dsimp only at hSw);rw [hSw];refine Pure.val ?_;refine (Zz08 73 (.tmp 121) rfl (by go_simp;first | done | rfl) hl1).trans ?_;with_reducible rfl));try simp only [aS,aN,aA,a0,a1]);iterate 3 (refine Org.fA (v:= ?_) (SM.of hS) ?_ ?_;rotate_left;(focus (intro w;refine Pure.val ?_;go_simp;(try with_reducible rfl);done));try simp only [aS,aN,aA,a0,a1])
     (refine Org.yA (v:= ?_) (SM.of hS) ?_ ?_;rotate_left;(focus (intro w hSw;(try dsimp only at hSw);rw [hSw];refine Pure.val ?_;refine (Zz08 73 (.tmp 125) rfl (by go_simp;first | done | rfl) hl2').trans ?_;with_reducible rfl));try simp only [aS,aN,aA,a0,a1]);(refine Org.yV (SM.of hS) ?_;try simp only [aS,aN,aA,a0,a1]);refine Org.mark (p:=15) rfl (by kernel_rfl) (by kernel_rfl) (by kernel_rfl) (by kernel_rfl) (fun K hK=> ?_)
     refine wp_store_mid 73 (.tmp 127) (.tmp 122) rfl blk (off+ib*8) (ex).toArray (by go_simp;first | done | rfl) (by go_simp;first | done | rfl) (by rw [show (ex).toArray.size=8 by simp [hxn]];exact hst.1) (by rw [show (ex).toArray.size=8 by simp [hxn]];exact R.size) hxn1 ?_;refine hK.out _ _ ?_;clear hK K hS;try simp only [aS,aN,aA,a0,a1]
     (refine Org.fA (v:= ?_) (SM.past (p:=15) (by kernel_rfl) (by kernel_rfl)) ?_ ?_;rotate_left;(focus (intro w;refine Pure.val ?_;go_simp;(try with_reducible rfl);done));try simp only [aS,aN,aA,a0,a1]);refine Org.mark (p:=15) rfl (by kernel_rfl) (by kernel_rfl) (by kernel_rfl) (by kernel_rfl) (fun K hK=> ?_);refine wp_store_mid 73 (.tmp 128) (.tmp 126) rfl blk (off+ia*8) (ey).toArray (by go_simp;first | done | rfl) (by go_simp;first | done | rfl) (by rw [show (ey).toArray.size=8 by simp [hyn]];exact hst.2) (by rw [show (ey).toArray.size=8 by simp [hyn]];exact R.size) hyn1 ?_;refine hK.out _ _ ?_;clear hK K;try simp only [aS,aN,aA,a0,a1]
     refine Org.done (by kernel_rfl) ?_;skip;clear c6;go_wp2_with fail;go_roundw
     case rel=>exact ⟨ia,by go_num,by omega,by omega,by rw [HZ1.out];have:=HE.out;simpa using this⟩
     case measure=>simp [intOf] <;> omega
    ·have hlt'':¬ (i:Int) < (k:Int):=by omega
     obtain rfl:k=i:=by omega
     go_wp2_with fail;refine bodyPost_ret (results_none rfl _ _ _) rfl ?_;refine ⟨rfl,?_⟩;have:=HS.out
     rw [HONE.out];simpa using this
variable {α:Type} [Inhabited α] {enc:α→List Value} {w0 W:World} {blk off N cap:Nat} {l:List α} {g:Nat} {cf:α→α→Int}
theorem Zz89 (ho:SOrd fun x y=>decide (cf x y < 0)) (R:RowL Tryz.prog 73 enc w0 blk off N) (hN:N≤1048576) (h1:∀ x,∀ v∈enc x,v.oneCell'=true) (eg:∀ args w,(callFunc g args).run Tryz.prog w= .ok (.enter g args) w) (hC:CmpLays Tryz.prog g #[] enc 8 cf blk off N w0):∀ (K:Nat) (A L Z S:List α) (a m b:Nat) (W:World),b - a≤K→SWL enc w0 blk off N (A++(L++(Z++S))) W→A.length=a→a+L.length=m→m+Z.length=b→a < m→m < b→Srt (fun x y=>decide (cf x y < 0)) L→Srt (fun x y=>decide (cf x y < 0)) Z→
  Calls Tryz.prog 114 #[.slice (some ⟨blk,off,none⟩) N cap,.int .i64 a,.int .i64 m,.int .i64 b,.func (.func g) #[] #[]] W fun e w'=>e= .returned (.tuple #[])∧SWL enc w0 blk off N (A++(mrg (fun x y=>decide (cf x y < 0)) L Z++S)) w':=by
 intro K;induction K with
 | zero=>intro A L Z S a m b W hK _ _ _ _ _ _;omega
 | succ K ih=>
  intro A L Z S a m b W hK h ha hm hb ham hmb hL hZ;by_cases c1:a+1=m
  ·obtain ⟨x,rfl⟩:∃ x,L= [x]:=List.length_eq_one_iff.1 (by omega)
   exact ssymAR ho R hN h1 eg hC h ha c1 hb hmb hZ
  by_cases c2:m+1=b
  ·obtain ⟨x,rfl⟩:∃ x,Z= [x]:=List.length_eq_one_iff.1 (by omega)
   exact ssymBR ho R hN h1 eg hC h ha hm c2 (by omega) hL
  have hbN:b≤N:=by have:=h.1;simp only [List.length_append] at this;omega
  obtain ⟨mid,hmid⟩:∃ mid,(a+b) / 2=mid:=⟨_,rfl⟩;obtain ⟨nn,hnn⟩:∃ nn,mid+m=nn:=⟨_,rfl⟩;obtain ⟨la,hla⟩:∃ la,m - a=la:=⟨_,rfl⟩;obtain ⟨lb,hlb⟩:∃ lb,b - m=lb:=⟨_,rfl⟩;obtain ⟨pp,hpp⟩:∃ pp,nn - 1=pp:=⟨_,rfl⟩;have t0:(m:Int) - (a:Int)=(la:Int):=by omega
  have t0':¬ (la:Int)=1:=by omega
  have t0'':((la:Int)==1)=false:=by simpa using t0'
  have t1:(b:Int) - (m:Int)=(lb:Int):=by omega
  have t1':¬ (lb:Int)=1:=by omega
  have t1'':((lb:Int)==1)=false:=by simpa using t1'
  have t2:((a:Int)+(b:Int)) / 2=(mid:Int):=by omega
  have t3:(mid:Int)+(m:Int)=(nn:Int):=by omega
  have t4:(nn:Int) - 1=(pp:Int):=by omega
  have m1:a < mid:=by omega
  have m2:mid < b:=by omega
  have py:∀ i,a≤i→i < m→(A++(L++(Z++S)))[i]? =some (L[i - a]!):=fun i h1 h2=>by
   rw [List.getElem?_append_right (by omega),show i - A.length=i - a by omega,List.getElem?_append_left (by omega),getElem!_pos L (i - a) (by omega),ZgE]
  have pz:∀ i,m≤i→i < b→(A++(L++(Z++S)))[i]? =some (Z[i - m]!):=fun i h1 h2=>by
   rw [List.getElem?_append_right (by omega),List.getElem?_append_right (by omega),show i - A.length - L.length=i - m by omega,List.getElem?_append_left (by omega),getElem!_pos Z (i - m) (by omega),ZgE]
  have HA:=hid ha;have HM:=hid hm;have HB:=hid hb;have HH:=hid h;have HC:=hid hC;have HL:=hid hL;have HZ:=hid hZ;have HO:=hid ho;have PY:=hid py;have PZ:=hid pz;have HMD:=hid hmid;have HNN:=hid hnn;have HPP:=hid hpp;have IH:=hid ih;clear h ha hm hb hC hL hZ ho py pz hmid hnn hpp hla hlb ih c1 c2;go_enter Tryz.func114,Tryz.ntmps114;go_upto_if 140 with fail
  go_cut [20,21] (fun v20 v21 wx=>∃ s0 r0:Nat,v20= .int .i64 (s0:Int)∧v21= .int .i64 (r0:Int)∧Hid (a≤s0∧s0≤r0∧r0≤m∧r0≤mid∧nn≤s0+b∧(s0=a∨s0+b=nn)∧(r0=m∨r0=mid))∧W=wx)
  case first=>as_aux_lemma=>
   have hmd:=HMD.out;have hnn:=HNN.out;by_cases hd:mid < m
   ·have hd':(mid:Int) < (m:Int):=by omega
    obtain ⟨s0,hs0⟩:∃ s0,nn - b=s0:=⟨_,rfl⟩;have e0:(nn:Int) - (b:Int)=(s0:Int):=by omega
    go_wp2_with fail;go_meet
    exact ⟨s0,mid,rfl,rfl,⟨by omega,by omega,by omega,by omega,by omega,by omega,by omega⟩,rfl⟩
   ·have hd':¬ (mid:Int) < (m:Int):=by omega
    go_wp2_with fail;go_meet
    exact ⟨a,m,rfl,rfl,⟨by omega,by omega,by omega,by omega,by omega,by omega,by omega⟩,rfl⟩
  case rest=>
  obtain ⟨s0,r0,rfl,rfl,HF0,rfl⟩:=hcut;go_wp2_with fail;go_loopw [20,21] (fun vs vr wr=>∃ (s r:Nat),vs= .int .i64 (s:Int)∧vr= .int .i64 (r:Int)∧s0≤s∧s≤r∧r≤r0∧SWL enc w0 blk off N (A++(L++(Z++S))) wr∧Hid ((s=s0∨0≤cf (Z[nn - s - m]!) (L[s - 1 - a]!))∧(r=r0∨cf (Z[nn - 1 - r - m]!) (L[r - a]!) < 0))) (fun s r _=>(intOf r).toNat - (intOf s).toNat)
  case atStart=>exact ⟨s0,r0,rfl,rfl,ZnR _,HF0.out.2.1,ZnR _,HH.out,⟨.inl rfl,.inl rfl⟩⟩
  case round=>
   obtain ⟨s,r,rfl,rfl,hs0,hsr,hr0,hs,HF⟩:=hrel;have HS:=hid hs;clear hs;by_cases hlt:s < r
   ·as_aux_lemma=>
    have hlt':(s:Int) < (r:Int):=by omega
    have hf0:=HF0.out;have hnn:=HNN.out;have hpp:=HPP.out;have hmd:=HMD.out;obtain ⟨c,hc⟩:∃ c,(s+r) / 2=c:=⟨_,rfl⟩;obtain ⟨q,hq⟩:∃ q,pp - c=q:=⟨_,rfl⟩;have c0:((s:Int)+(r:Int)) / 2=(c:Int):=by omega
    have c1:(c:Int) < (N:Int):=by omega
    have c2:(q:Int) < (N:Int):=by omega
    have c3:IntKind.i64.wrap ((pp:Int) - (c:Int))=(q:Int):=by rw [IntKind.wrap_i64];omega
    have p1:=PY.out c (by omega) (by omega);have p2:=PZ.out q (by omega) (by omega);obtain ⟨y,hy⟩:∃ y,L[c - a]! =y:=⟨_,rfl⟩;obtain ⟨z,hz⟩:∃ z,Z[q - m]! =z:=⟨_,rfl⟩;rw [hy] at p1;rw [hz] at p2;have P1:=hid p1;have P2:=hid p2;have HY1:=hid hy;have HZ1:=hid hz;have HCC:=hid hc;have HQ:=hid hq;clear p1 p2 hy hz hf0 hnn hpp hmd hc hq;go_wp2_with fail;refine Org.begin [] (SWL enc w0 blk off N (A++(L++(Z++S)))) [0,1,2,3,4,5,6,7,8,9,10,11,12,13] (by kernel_rfl) (HS.out.drew) (fun hS=> ?_);iterate 6 (refine Org.yV (SM.of hS) ?_;try simp only [aS,aN,aA,a0,a1])
    (refine Org.yA (v:= ?_) (SM.of hS) ?_ ?_;rotate_left;(focus (intro w hSw;(try dsimp only at hSw);refine Pure.val ?_;refine (Zz08 73 (.tmp 163) rfl (by go_simp;first | done | rfl) (SWL.ld hSw R P2.out)).trans ?_;with_reducible rfl));try simp only [aS,aN,aA,a0,a1]);iterate 3 (refine Org.yV (SM.of hS) ?_;try simp only [aS,aN,aA,a0,a1])
    (refine Org.yA (v:= ?_) (SM.of hS) ?_ ?_;rotate_left;(focus (intro w hSw;(try dsimp only at hSw);refine Pure.val ?_;refine (Zz08 73 (.tmp 167) rfl (by go_simp;first | done | rfl) (SWL.ld hSw R P1.out)).trans ?_;with_reducible rfl));try simp only [aS,aN,aA,a0,a1]);refine Org.gA fun K hK=> ?_
    go_simp
    first
     | (go_at_fn g)
     | skip
    refine ((SWL.cmp0 hS HC.out z y)).mono ?_;rintro e wz ⟨rfl,hS3⟩;go_wp2_with fail;refine hK.out _ _ hS3 (fun hS2=> ?_);clear hS3;clear hK K hS;have hS:=hS2;clear hS2;try simp only [aS,aN,aA,a0,a1]
    iterate 2 (refine Org.yV (SM.of hS) ?_;try simp only [aS,aN,aA,a0,a1])
    refine Org.done (by kernel_rfl) ?_;skip;have HS3:=hid hS;clear HS hS c3;have hc:=HCC.out;have hq:=HQ.out;have hpp:=HPP.out;have hf0:=HF0.out;have hnn:=HNN.out;by_cases hlv:cf z y < 0
    ·go_wp2_with fail
     ·rename_i hx
      simp [hlv] at hx
     go_roundw
     case rel=>exact ⟨s,c,rfl,rfl,hs0,by omega,by omega,HS3.out,⟨HF.out.1,.inr (by rw [HY1.out,show nn - 1 - c - m=q - m by omega,HZ1.out];exact hlv)⟩⟩
     case measure=>simp [intOf] <;> omega
    ·go_wp2_with fail
     rotate_left
     ·rename_i hx
      exfalso
      revert hx
      simp only [Bool.not_eq_false',decide_eq_true_eq];omega
     go_roundw
     case rel=>
      refine ⟨c+1,r,by go_num,rfl,by omega,by omega,by omega,HS3.out,⟨.inr ?_,HF.out.2⟩⟩;rw [show c+1 - 1 - a=c - a by omega,HY1.out,show nn - (c+1) - m=q - m by omega,HZ1.out];omega
     case measure=>simp [intOf] <;> omega
   ·have hlt':¬ (s:Int) < (r:Int):=by omega
    obtain rfl:s=r:=by omega
    obtain ⟨ee,hee⟩:∃ ee,nn - s=ee:=⟨_,rfl⟩;have hf0:=HF0.out;have hnn:=HNN.out;have hmd:=HMD.out;have e1:(nn:Int) - (s:Int)=(ee:Int):=by omega
    have e2:m≤ee∧ee≤b∧s≤mid∧s≤m∧a≤s∧ee=mid+m - s:=by omega
    have hmrg:mrg (fun x y=>decide (cf x y < 0)) L Z=mrg (fun x y=>decide (cf x y < 0)) (L.take (s - a)) (Z.take (mid - s))++mrg (fun x y=>decide (cf x y < 0)) (L.drop (s - a)) (Z.drop (mid - s)):=by
     have hm:=HM.out;have hb:=HB.out;refine Zzd0 HO.out HL.out HZ.out (by omega) (by omega) ?_ ?_
     ·rcases HF.out.1 with h | h
      ·rcases hf0.2.2.2.2.2.1 with h2 | h2
       ·exact .inl (by omega)
       ·exact .inr (.inl (by omega))
      ·refine .inr (.inr ?_)
       rw [show mid - s=nn - s - m by omega,show s - a - 1=s - 1 - a by omega];simpa using h
     ·rcases HF.out.2 with h | h
      ·rcases hf0.2.2.2.2.2.2 with h2 | h2
       ·exact .inl (by omega)
       ·exact .inr (.inl (by omega))
      ·refine .inr (.inr ?_)
       rw [show mid - s - 1=nn - 1 - s - m by omega];simpa using h
    have HMRG:=hid hmrg;have HEE:=hid e2;have hs:=HS.out;have hsp:A++(L++(Z++S))=A++(L.take (s - a)++(L.drop (s - a)++(Z.take (mid - s)++(Z.drop (mid - s)++S)))):=by
     rw [← List.append_assoc (Z.take (mid - s)),List.take_append_drop,← List.append_assoc (L.take (s - a)),List.take_append_drop]
    rw [hsp] at hs;clear HS;have HS:=hid hs;clear hs hsp hmrg hee e2 hf0 hnn hmd hlt;obtain ⟨wl,hwl⟩:∃ wl,wl=wr:=⟨_,rfl⟩;rw [← hwl] at HS ⊢;clear hwl;go_upto_region 39 with fail;go_cut [185] (fun v wx=>v= .bool (decide (s < m∧m < ee))∧wl=wx)
    case first=>as_aux_lemma=>
     by_cases d1:s < m
     ·have d1':(s:Int) < (m:Int):=by omega
      by_cases d2:m < ee
      ·have d2':(m:Int) < (ee:Int):=by omega
       go_wp2_with fail;go_meet
       exact ⟨by simp [d1,d2],rfl⟩
      ·have d2':¬ (m:Int) < (ee:Int):=by omega
       go_wp2_with fail;go_meet
       exact ⟨by simp [d2],rfl⟩
     ·have d1':¬ (s:Int) < (m:Int):=by omega
      go_wp2_with fail;go_meet
      exact ⟨by simp [d1],rfl⟩
    case rest=>
    obtain ⟨rfl,rfl⟩:=hcut;go_upto_if 185 with fail
    go_cut [] (fun wx=>SWL enc w0 blk off N (A++(L.take (s - a)++(Z.take (mid - s)++(L.drop (s - a)++(Z.drop (mid - s)++S))))) wx)
    case first=>as_aux_lemma=>
     by_cases d:s < m∧m < ee
     ·have d':decide (s < m∧m < ee)=true:=decide_eq_true d
      have hk:=Zzey (cap:=cap) R hN h1 (A:=A++L.take (s - a)) (X:=L.drop (s - a)) (Y:=Z.take (mid - s)) (S:=Z.drop (mid - s)++S) (a:=s) (m:=m) (b:=ee) (.func (.func g) #[] #[]) (by have:=HS.out;simpa using this) (by have hA:=HA.out;have hM:=HM.out;have hB:=HB.out;have hMD:=HMD.out;have hEE:=HEE.out;have hNN:=HNN.out;have hF0:=HF0.out;simp;omega) (by have hA:=HA.out;have hM:=HM.out;have hB:=HB.out;have hMD:=HMD.out;have hEE:=HEE.out;have hNN:=HNN.out;have hF0:=HF0.out;simp;omega) (by have hA:=HA.out;have hM:=HM.out;have hB:=HB.out;have hMD:=HMD.out;have hEE:=HEE.out;have hNN:=HNN.out;have hF0:=HF0.out;simp;omega) d.1 d.2;have HK:=hid hk;clear hk;go_wp2_with fail;refine HK.out.mono ?_
      rintro e w2 ⟨rfl,hs2⟩;have HS2:=hid hs2;clear hs2;go_wp2_with fail;go_meet
      have:=HS2.out;simpa using this
     ·have d':decide (s < m∧m < ee)=false:=decide_eq_false d
      go_wp2_with fail;go_meet
      have hs:=HS.out;have e3:L.drop (s - a)++(Z.take (mid - s)++(Z.drop (mid - s)++S))=Z.take (mid - s)++(L.drop (s - a)++(Z.drop (mid - s)++S)):=by
       have hA:=HA.out;have hM:=HM.out;have hB:=HB.out;have hMD:=HMD.out;have hEE:=HEE.out;have hNN:=HNN.out;have hF0:=HF0.out;rcases Nat.lt_or_ge s m with h1 | h1
       ·have:Z.take (mid - s)= []:=by rw [show mid - s=0 by omega];rfl
        rw [this];rfl
       ·have:L.drop (s - a)= []:=List.drop_eq_nil_of_le (by omega)
        rw [this];rfl
      rw [e3] at hs;exact hs
    case rest=>
    clear HS;have HS:=hid hcut;clear hcut;generalize wc=wk at*;go_upto_region 41 with fail;go_cut [199] (fun v wx=>v= .bool (decide (a < s∧s < mid))∧wk=wx)
    case first=>as_aux_lemma=>
     by_cases d1:a < s
     ·have d1':(a:Int) < (s:Int):=by omega
      by_cases d2:s < mid
      ·have d2':(s:Int) < (mid:Int):=by omega
       go_wp2_with fail;go_meet
       exact ⟨by simp [d1,d2],rfl⟩
      ·have d2':¬ (s:Int) < (mid:Int):=by omega
       go_wp2_with fail;go_meet
       exact ⟨by simp [d2],rfl⟩
     ·have d1':¬ (a:Int) < (s:Int):=by omega
      go_wp2_with fail;go_meet
      exact ⟨by simp [d1],rfl⟩
    case rest=>
    obtain ⟨rfl,rfl⟩:=hcut;go_upto_if 199 with fail
    go_cut [] (fun wx=>SWL enc w0 blk off N (A++(mrg (fun x y=>decide (cf x y < 0)) (L.take (s - a)) (Z.take (mid - s))++(L.drop (s - a)++(Z.drop (mid - s)++S)))) wx)
    case first=>as_aux_lemma=>
     by_cases d:a < s∧s < mid
     ·have d':decide (a < s∧s < mid)=true:=decide_eq_true d
      have hk:=IH.out A (L.take (s - a)) (Z.take (mid - s)) (L.drop (s - a)++(Z.drop (mid - s)++S)) a s mid _ (by omega) HS.out HA.out (by have hA:=HA.out;have hM:=HM.out;have hB:=HB.out;have hMD:=HMD.out;have hEE:=HEE.out;have hNN:=HNN.out;have hF0:=HF0.out;simp;omega) (by have hA:=HA.out;have hM:=HM.out;have hB:=HB.out;have hMD:=HMD.out;have hEE:=HEE.out;have hNN:=HNN.out;have hF0:=HF0.out;simp;omega) d.1 d.2 (HL.out.take _) (HZ.out.take _);have HK:=hid hk;clear hk;go_wp2_with fail;refine HK.out.mono ?_;rintro e w2 ⟨rfl,hs2⟩;have HS2:=hid hs2;clear hs2;go_wp2_with fail;go_meet
      exact HS2.out
     ·have d':decide (a < s∧s < mid)=false:=decide_eq_false d
      go_wp2_with fail;go_meet
      have hs:=HS.out;have e3:L.take (s - a)++(Z.take (mid - s)++(L.drop (s - a)++(Z.drop (mid - s)++S)))=mrg (fun x y=>decide (cf x y < 0)) (L.take (s - a)) (Z.take (mid - s))++(L.drop (s - a)++(Z.drop (mid - s)++S)):=by
       have hA:=HA.out;have hM:=HM.out;have hB:=HB.out;have hMD:=HMD.out;have hEE:=HEE.out;have hNN:=HNN.out;have hF0:=HF0.out;rcases Nat.lt_or_ge a s with h1 | h1
       ·have:Z.take (mid - s)= []:=by rw [show mid - s=0 by omega];rfl
        rw [this,Zz4p];rfl
       ·have:L.take (s - a)= []:=by rw [show s - a=0 by omega];rfl
        rw [this,Zz33 (HZ.out.take _)];rfl
      rw [e3] at hs;exact hs
    case rest=>
    clear HS;have HS:=hid hcut;clear hcut;generalize wc=wj at*;go_upto_region 43 with fail;go_cut [213] (fun v wx=>v= .bool (decide (mid < ee∧ee < b))∧wj=wx)
    case first=>as_aux_lemma=>
     by_cases d1:mid < ee
     ·have d1':(mid:Int) < (ee:Int):=by omega
      by_cases d2:ee < b
      ·have d2':(ee:Int) < (b:Int):=by omega
       go_wp2_with fail;go_meet
       exact ⟨by simp [d1,d2],rfl⟩
      ·have d2':¬ (ee:Int) < (b:Int):=by omega
       go_wp2_with fail;go_meet
       exact ⟨by simp [d2],rfl⟩
     ·have d1':¬ (mid:Int) < (ee:Int):=by omega
      go_wp2_with fail;go_meet
      exact ⟨by simp [d1],rfl⟩
    case rest=>
    obtain ⟨rfl,rfl⟩:=hcut;by_cases d:mid < ee∧ee < b
    ·have d':decide (mid < ee∧ee < b)=true:=decide_eq_true d
     have hk:=IH.out (A++mrg (fun x y=>decide (cf x y < 0)) (L.take (s - a)) (Z.take (mid - s))) (L.drop (s - a)) (Z.drop (mid - s)) S mid ee b _ (by omega) (by have:=HS.out;simpa using this) (by have hA:=HA.out;have hM:=HM.out;have hB:=HB.out;have hMD:=HMD.out;have hEE:=HEE.out;have hNN:=HNN.out;have hF0:=HF0.out;simp [Zz1s];omega) (by have hA:=HA.out;have hM:=HM.out;have hB:=HB.out;have hMD:=HMD.out;have hEE:=HEE.out;have hNN:=HNN.out;have hF0:=HF0.out;simp;omega) (by have hA:=HA.out;have hM:=HM.out;have hB:=HB.out;have hMD:=HMD.out;have hEE:=HEE.out;have hNN:=HNN.out;have hF0:=HF0.out;simp;omega) d.1 d.2 (HL.out.drop _) (HZ.out.drop _);have HK:=hid hk;clear hk;go_wp2_with fail
     refine HK.out.mono ?_;rintro e w2 ⟨rfl,hs2⟩;have HS2:=hid hs2;clear hs2;go_wp2_with fail;go_end0
     refine ⟨rfl,?_⟩;have:=HS2.out
     rw [HMRG.out];simpa using this
    ·have d':decide (mid < ee∧ee < b)=false:=decide_eq_false d
     go_wp2_with fail;go_end0
     refine ⟨rfl,?_⟩;have hs:=HS.out;have e3:L.drop (s - a)++(Z.drop (mid - s)++S)=mrg (fun x y=>decide (cf x y < 0)) (L.drop (s - a)) (Z.drop (mid - s))++S:=by
      have hA:=HA.out;have hM:=HM.out;have hB:=HB.out;have hMD:=HMD.out;have hEE:=HEE.out;have hNN:=HNN.out;have hF0:=HF0.out;rcases Nat.lt_or_ge mid ee with h1 | h1
      ·have:Z.drop (mid - s)= []:=List.drop_eq_nil_of_le (by omega)
       rw [this,Zz4p];rfl
      ·have:L.drop (s - a)= []:=List.drop_eq_nil_of_le (by omega)
       rw [this,Zz33 (HZ.out.drop _)];rfl
     rw [e3] at hs;rw [HMRG.out];simpa using hs
variable {α:Type} [Inhabited α] {enc:α→List Value} {w0 W:World} {blk off N cap:Nat} {l:List α} {g:Nat} {cf:α→α→Int}
theorem Zzex (ho:SOrd fun x y=>decide (cf x y < 0)) (R:RowL Tryz.prog 73 enc w0 blk off N) (hN:N≤1048576) (h1:∀ x,∀ v∈enc x,v.oneCell'=true) (eg:∀ args w,(callFunc g args).run Tryz.prog w= .ok (.enter g args) w) (hC:CmpLays Tryz.prog g #[] enc 8 cf blk off N w0) (h:SWL enc w0 blk off N l W):
  Calls Tryz.prog 88 #[.slice (some ⟨blk,off,none⟩) N cap,.int .i64 N,.func (.func g) #[] #[]] W fun e w'=>e= .returned (.tuple #[])∧SWL enc w0 blk off N (ssort (fun x y=>decide (cf x y < 0)) l) w':=by
 have hln:=h.1;have HH:=hid h;have HC:=hid hC;have HO:=hid ho;have HLN:=hid hln;clear h hC ho hln;go_enter Tryz.func88,Tryz.ntmps88;go_wp2_with fail;go_loopw [7,8] (fun va vb wr=>∃ (a b:Nat) (X:List α),va= .int .i64 (a:Int)∧vb= .int .i64 (b:Int)∧a+20=b∧a≤N∧SWL enc w0 blk off N (X++l.drop a) wr∧Hid (X.length=a∧X++csort (fun x y=>decide (cf x y < 0)) 20 (l.drop a)=csort (fun x y=>decide (cf x y < 0)) 20 l)) (fun a _ _=>N - (intOf a).toNat)
 case atStart=>exact ⟨0,20, [],rfl,rfl,by omega,by omega,HH.out,⟨rfl,rfl⟩⟩
 case round=>
  obtain ⟨a,b,X,rfl,rfl,hab,haN,hs,HF⟩:=hrel;have HS:=hid hs;clear hs;by_cases hb:b≤N
  ·as_aux_lemma=>
   have hb':(b:Int)≤(N:Int):=by omega
   have e0:(b:Int)+20=((b+20:Nat):Int):=by omega
   obtain ⟨f1,f2⟩:=HF.out;have hk:=Zz8e (cap:=cap) HO.out R hN h1 eg HC.out (A:=X) (L:=(l.drop a).take 20) (S:=l.drop b) (a:=a) (b:=b) (W:=wr) (by have:=HS.out;rwa [← hab,← List.drop_drop,List.take_append_drop]) f1 (by have:=HLN.out;simp;omega);have HK:=hid hk;have HAB:=hid hab;clear hk f1 f2 hab e0;go_wp2_with fail;refine HK.out.mono ?_;rintro e w2 ⟨rfl,hs2⟩;have HS2:=hid hs2;clear hs2;go_wp2_with fail;have hab:=HAB.out;have hln:=HLN.out;go_roundw
   case rel=>
    refine ⟨b,b+20,X++ssort (fun x y=>decide (cf x y < 0)) ((l.drop a).take 20),rfl,by go_num,rfl,hb,by have:=HS2.out;simpa using this,?_⟩;obtain ⟨f1,f2⟩:=HF.out;refine ⟨by simp [Zz09];omega,?_⟩;rw [← f2,Zz1e (w:=20) (l:=l.drop a) (by omega) (by simp;omega),List.drop_drop,hab,List.append_assoc]
   case measure=>simp [intOf] <;> omega
  ·have hb':¬ (b:Int)≤(N:Int):=by omega
   have hln:=HLN.out;obtain ⟨f1,f2⟩:=HF.out;have hk:=Zz8e (cap:=cap) HO.out R hN h1 eg HC.out (A:=X) (L:=l.drop a) (S:= []) (a:=a) (b:=N) (W:=wr) (by simpa using HS.out) f1 (by simp;omega);rw [← Zz11 (w:=20) (l:=l.drop a) (by simp;omega),← List.append_assoc,f2,List.append_nil] at hk;have HK:=hid hk;clear hk f1 f2 hab hln;go_wp2_with fail;refine HK.out.mono ?_;rintro e w2 ⟨rfl,hs2⟩;clear HS HF HK;have HS:=hid hs2;clear hs2;go_wp2_with fail;go_loopw [6] (fun vw wr=>∃ w:Nat,vw= .int .i64 (w:Int)∧0 < w∧w≤2*N+20∧SWL enc w0 blk off N (csort (fun x y=>decide (cf x y < 0)) w l) wr) (fun w _=>N - (intOf w).toNat)
   case atStart=>exact ⟨20,rfl,by omega,by omega,HS.out⟩
   case round=>
    obtain ⟨w,rfl,hw0,hwN,hs⟩:=hrel;clear HS;have HS:=hid hs;clear hs;by_cases hlt:w < N
    ·have hlt':(w:Int) < (N:Int):=by omega
     obtain ⟨w2,hw2⟩:∃ w2,2*w=w2:=⟨_,rfl⟩;have e1:2*(w:Int)=(w2:Int):=by omega
     have e2:(w:Int)*2=(w2:Int):=by omega
     have HW2:=hid hw2;obtain ⟨wl,hwl⟩:∃ wl,wl=wr:=⟨_,rfl⟩;rw [← hwl] at HS ⊢;clear hwl hw2;go_wp2_with fail;go_loopw [7,8] (fun va vb wr=>∃ (a b:Nat) (X:List α),va= .int .i64 (a:Int)∧vb= .int .i64 (b:Int)∧a+w2=b∧a≤N∧SWL enc w0 blk off N (X++csort (fun x y=>decide (cf x y < 0)) w (l.drop a)) wr∧Hid (X.length=a∧X++csort (fun x y=>decide (cf x y < 0)) w2 (l.drop a)=csort (fun x y=>decide (cf x y < 0)) w2 l)) (fun a _ _=>N - (intOf a).toNat)
     case atStart=>exact ⟨0,w2, [],rfl,rfl,by omega,by omega,HS.out,⟨rfl,rfl⟩⟩
     case round=>
      obtain ⟨a,b,X,rfl,rfl,hab,haN,hs,HF⟩:=hrel;clear HS;have HS:=hid hs;clear hs;by_cases hb:b≤N
      ·as_aux_lemma=>
       have hb':(b:Int)≤(N:Int):=by omega
       have hw2:=HW2.out;have hln:=HLN.out;obtain ⟨m,hm⟩:∃ m,a+w=m:=⟨_,rfl⟩;have e3:(a:Int)+(w:Int)=(m:Int):=by omega
       obtain ⟨f1,f2⟩:=HF.out;obtain ⟨g1,g2⟩:=Zz98 HO.out (w:=w) (l:=l.drop a) hw0 (by simp;omega);have hs:=HS.out;rw [g1] at hs;rw [hw2] at g2 hs;have hk:=Zz89 (cap:=cap) HO.out R hN h1 eg HC.out N X (ssort (fun x y=>decide (cf x y < 0)) ((l.drop a).take w)) (ssort (fun x y=>decide (cf x y < 0)) (((l.drop a).drop w).take w)) (csort (fun x y=>decide (cf x y < 0)) w ((l.drop a).drop w2)) a m b wr (by omega) hs f1 (by simp [Zz09];omega) (by simp [Zz09];omega) (by omega) (by omega) (Zz0q HO.out _) (Zz0q HO.out _);have HK:=hid hk;have HG:=hid g2;have HAB:=hid hab;clear hk f1 f2 hab g1 g2 hs hw2 hln hm;go_wp2_with fail;refine HK.out.mono ?_;rintro e wz ⟨rfl,hs2⟩;have HS2:=hid hs2;clear hs2
       go_wp2_with fail;have hab:=HAB.out;have hln:=HLN.out;have hw2:=HW2.out;go_roundw
       case rel=>
        obtain ⟨f1,f2⟩:=HF.out;refine ⟨b,b+w2,X++mrg (fun x y=>decide (cf x y < 0)) (ssort (fun x y=>decide (cf x y < 0)) ((l.drop a).take w)) (ssort (fun x y=>decide (cf x y < 0)) (((l.drop a).drop w).take w)),rfl,by go_num,rfl,hb,?_,?_⟩
        ·have:=HS2.out
         rw [show (l.drop a).drop w2=l.drop b by rw [List.drop_drop,hab]] at this;rw [List.append_assoc];exact this
        ·refine ⟨by simp [Zz09,Zz1s];omega,?_⟩
         rw [← f2,HG.out,show (l.drop a).drop w2=l.drop b by rw [List.drop_drop,hab],List.append_assoc]
       case measure=>simp [intOf] <;> omega
      ·have hb':¬ (b:Int)≤(N:Int):=by omega
       have hw2:=HW2.out;have hln:=HLN.out;obtain ⟨m,hm⟩:∃ m,a+w=m:=⟨_,rfl⟩;have e3:(a:Int)+(w:Int)=(m:Int):=by omega
       obtain ⟨f1,f2⟩:=HF.out;by_cases hmN:m < N
       ·as_aux_lemma=>
        have hmN':(m:Int) < (N:Int):=by omega
        obtain ⟨g1,g2⟩:=Zz6q HO.out (w:=w) (l:=l.drop a) hw0 (by simp;omega) (by simp;omega);have hs:=HS.out;rw [g1] at hs;rw [hw2] at g2;have hk:=Zz89 (cap:=cap) HO.out R hN h1 eg HC.out N X (ssort (fun x y=>decide (cf x y < 0)) ((l.drop a).take w)) (ssort (fun x y=>decide (cf x y < 0)) ((l.drop a).drop w)) [] a m N wr (by omega) (by simpa using hs) f1 (by simp [Zz09];omega) (by simp [Zz09];omega) (by omega) (by omega) (Zz0q HO.out _) (Zz0q HO.out _);rw [List.append_nil,← g2,f2] at hk;have HK:=hid hk;clear hk f1 f2 hab g1 g2 hs hw2 hln hm;go_wp2_with fail;refine HK.out.mono ?_;rintro e wz ⟨rfl,hs2⟩;have HS2:=hid hs2;clear hs2;go_wp2_with fail;have hw2:=HW2.out;go_roundw
        case rel=>exact ⟨w2,rfl,by omega,by omega,HS2.out⟩
        case measure=>simp [intOf] <;> omega
       ·as_aux_lemma=>
        have hmN':¬ (m:Int) < (N:Int):=by omega
        have hs:=HS.out;rw [Zz3l hw0 (by simp;omega),← Zz11 (w:=w2) (l:=l.drop a) (by simp;omega),f2] at hs;have HS2:=hid hs;clear f1 f2 hab hs hln hm hw2;go_wp2_with fail;have hw2:=HW2.out;go_roundw
        case rel=>exact ⟨w2,rfl,by omega,by omega,HS2.out⟩
        case measure=>simp [intOf] <;> omega
    ·have hlt':¬ (w:Int) < (N:Int):=by omega
     go_wp2_with fail;go_end0
     refine ⟨rfl,?_⟩;have:=HS.out
     rwa [Zz3l hw0 (by have:=HLN.out;omega)] at this
theorem Zz77 (ho:SOrd fun x y=>decide (cf x y < 0)) (R:RowL Tryz.prog 73 enc w0 blk off N) (hN:N≤1048576) (h1:∀ x,∀ v∈enc x,v.oneCell'=true) (eg:∀ args w,(callFunc g args).run Tryz.prog w= .ok (.enter g args) w) (hC:CmpLays Tryz.prog g #[] enc 8 cf blk off N w0) (h:SWL enc w0 blk off N l W):
  Calls Tryz.prog 46 #[.slice (some ⟨blk,off,none⟩) N cap,.func (.func g) #[] #[]] W fun e w'=>e= .returned (.tuple #[])∧SWL enc w0 blk off N (ssort (fun x y=>decide (cf x y < 0)) l) w':=by
 have hk:=Zzex (cap:=cap) ho R hN h1 eg hC h;have HK:=hid hk;clear hk h hC ho;go_enter Tryz.func46,Tryz.ntmps46;go_wp2_with fail;refine HK.out.mono ?_;rintro e w2 ⟨rfl,hs2⟩;have HS2:=hid hs2;clear hs2;go_wp2_with fail;go_end0
 exact ⟨rfl,HS2.out⟩
variable {α:Type} [Inhabited α] {enc:α→List Value} {w0 W:World} {blk off N cap:Nat} {l:List α} {g:Nat} {lt:α→α→Bool}
theorem Zzdj (R:RowL Tryz.prog 73 enc w0 blk off N) (hN:N≤1048576) (h1:∀ x,∀ v∈enc x,v.oneCell'=true) (eg:∀ args w,(callFunc g args).run Tryz.prog w= .ok (.enter g args) w) (hE:EqL Tryz.prog g enc lt w0 blk off N) (z:α) (zv:Value) (hzv:∀ w,(zeroValue 73).run Tryz.prog w= .ok zv w) (hzc:zv.cells=(enc z).toArray)
  (hN1:1≤N) (hcap:N≤cap) (hcap2:cap≤9223372036854775807) (h:SWL enc w0 blk off N l W):
  Calls Tryz.prog 48 #[.slice (some ⟨blk,off,none⟩) N cap,.func (.func g) #[] #[]] W (CptR enc w0 blk off N cap lt l):=by
 have HH:=hid h;have HE:=hid hE;have HLN:=hid h.1;have HZV:=hid hzv;have HZC:=hid hzc;have hu:∃ d,Tryz.prog.underlying 73=some d∧d.isRow=true:=R.agg;obtain ⟨dd,hd1,hd2⟩:=hu;have HD1:=hid hd1;have HD2:=hid hd2;clear h hE hzv hzc hd1 hd2;by_cases h2:N < 2
 ·have h2':(N:Int) < 2:=by omega
  go_enter Tryz.func48,Tryz.ntmps48;go_wp2_with fail;go_ret
  have hl:=HLN.out;match l,hl with
  | [],hl=>simp at hl;omega
  | [x],_=>
   refine ⟨[x],N,rfl,HH.out,?_,?_,ZnR _⟩
   ·have:N=1:=by omega
    simp [cpt,cptGo,this]
   ·have:N=1:=by omega
    simp [cpt,cptGo,this]
  | x::y::r,hl=>simp at hl;omega
 have h2':¬ (N:Int) < 2:=by omega
 go_enter Tryz.func48,Tryz.ntmps48;go_wp2_with fail;go_loopw [5] (fun v wr=>∃ k:Nat,v= .int .i64 (k:Int)∧1≤k∧k≤N∧SWL enc w0 blk off N l wr∧Hid (cpt lt l=l.take k++cptGo lt (l[k - 1]!) (l.drop k))) (fun v _=>N - (intOf v).toNat)
 case atStart=>
  refine ⟨1,rfl,ZnR _,by omega,HH.out,?_⟩;have hl:=HLN.out;match l,hl with
  | [],hl=>simp at hl;omega
  | x::r,_=>exact rfl
 case round=>
  obtain ⟨k,rfl,hk1,hkN,hs,HF⟩:=hrel;have HS:=hid hs;clear hs;by_cases hlt:k < N
  ·have hlt':(k:Int) < (N:Int):=by omega
   obtain ⟨kp,hkp⟩:∃ kp,k - 1=kp:=⟨_,rfl⟩;obtain ⟨x,hx⟩:∃ x,l[k]! =x:=⟨_,rfl⟩;obtain ⟨y,hy⟩:∃ y,l[kp]! =y:=⟨_,rfl⟩;have p1:l[k]? =some x:=by rw [← hx];exact getD_some (by have:=HLN.out;omega)
   have p2:l[kp]? =some y:=by rw [← hy];exact getD_some (by have:=HLN.out;omega)
   have hdr:l.drop k=x::l.drop (k+1):=by
    rw [← hx,getElem!_pos l k (by have:=HLN.out;omega)];exact List.drop_eq_getElem_cons (by have:=HLN.out;omega)
   have htk:l.take (k+1)=l.take k++ [x]:=by
    rw [← hx,getElem!_pos l k (by have:=HLN.out;omega)];exact ZtS (by have:=HLN.out;omega)
   have hf:=HF.out;rw [hkp,hy,hdr] at hf;have P1:=hid p1;have P2:=hid p2;have HX:=hid hx;have HTK:=hid htk;have HF2:=hid hf;have HDR:=hid hdr;have c1:(kp:Int) < (N:Int):=by omega
   have c2:IntKind.i64.wrap ((k:Int) - 1)=(kp:Int):=by rw [IntKind.wrap_i64];omega
   have HKP:=hid hkp;clear p1 p2 hx hy hf hdr htk hkp;go_wp2_with fail;refine Org.begin [] (SWL enc w0 blk off N (l)) [0,1,2,3,4,5,6,7,8,9,10] (by kernel_rfl) (HS.out.drew) (fun hS=> ?_);iterate 4 (refine Org.yV (SM.of hS) ?_;try simp only [aS,aN,aA,a0,a1])
   (refine Org.yA (v:= ?_) (SM.of hS) ?_ ?_;rotate_left;(focus (intro w hSw;(try dsimp only at hSw);refine Pure.val ?_;refine (Zz08 73 (.tmp 21) rfl (by go_simp;first | done | rfl) (SWL.ld' hSw R P1.out (by omega))).trans ?_;with_reducible rfl));try simp only [aS,aN,aA,a0,a1]);iterate 4 (refine Org.yV (SM.of hS) ?_;try simp only [aS,aN,aA,a0,a1])
   (refine Org.yA (v:= ?_) (SM.of hS) ?_ ?_;rotate_left;(focus (intro w hSw;(try dsimp only at hSw);refine Pure.val ?_;refine (Zz08 73 (.tmp 26) rfl (by go_simp;first | done | rfl) (SWL.ld' hSw R P2.out (by omega))).trans ?_;with_reducible rfl));try simp only [aS,aN,aA,a0,a1]);refine Org.gA fun K hK=> ?_
   go_simp
   first
    | (go_at_fn g)
    | skip
   refine (HE.out _ _ hS x y).mono ?_;rintro e wz ⟨rfl,hS3⟩;go_wp2_with fail;refine hK.out _ _ hS3 (fun hS2=> ?_);clear hS3;clear hK K hS;have hS:=hS2;clear hS2;try simp only [aS,aN,aA,a0,a1]
   refine Org.done (by kernel_rfl) ?_;skip;have HS3:=hid hS;clear HS hS c2 HF;have hkp:=HKP.out;have hck:¬ cap=k:=by omega
   have hck':¬ k=cap:=by omega
   have hkc:(k:Int)≤(N:Int):=by omega
   generalize wz=wl at*;go_wp2_with fail
   ·rename_i he K0 K1
    have HEQ:=hid he;clear he;obtain ⟨M,hM⟩:∃ M,N - k=M:=⟨_,rfl⟩;obtain ⟨C,hC⟩:∃ C,cap - k=C:=⟨_,rfl⟩;rw [hM,hC];have hMb:M≤1048576:=by omega
    have HM:=hid hM;have HC:=hid hC;clear hM hC;go_loopw [5,7] (fun v5 v7 wr=>∃ (kk k2:Nat) (l':List α),v5= .int .i64 (kk:Int)∧v7= .int .i64 (k2:Int)∧1≤k2∧k2≤M∧k≤kk∧kk+1≤k+k2∧SWL enc w0 blk off N l' wr∧Hid (l'.drop (k+k2 - 1)=l.drop (k+k2 - 1)∧cpt lt l=l'.take kk++cptGo lt (l[k+k2 - 1]!) (l.drop (k+k2)))) (fun _ v _=>M - (intOf v).toNat)
    case atStart=>
     refine ⟨k,1,l,rfl,rfl,ZnR _,by have:=HM.out;omega,ZnR _,by omega,HS3.out,rfl,?_⟩;rw [HF2.out,show k+1 - 1=k by omega,HX.out];simp only [cptGo,HEQ.out,if_true]
    case round=>
     obtain ⟨kk,k2,l',rfl,rfl,hk21,hk2N,hkkk,hkk2,hs,HG⟩:=hrel;have HS:=hid hs;clear hs HS3;by_cases hlt2:k2 < M
     ·have hlt2':(k2:Int) < (M:Int):=by omega
      have hM:=HM.out;have hln:=HLN.out;have hl':=HS.out.1;obtain ⟨q,hq⟩:∃ q,k2 - 1=q:=⟨_,rfl⟩;obtain ⟨j,hj⟩:∃ j,k+k2=j:=⟨_,rfl⟩;obtain ⟨x2,hx2⟩:∃ x2,l[j]! =x2:=⟨_,rfl⟩;obtain ⟨y2,hy2⟩:∃ y2,l[k+q]! =y2:=⟨_,rfl⟩;obtain ⟨g1,g2⟩:=HG.out;have eqd:∀ i,l'[j - 1+i]? =l[j - 1+i]? :=fun i=>by
       have:=congrArg (fun z=>z[i]?) g1
       simp only [List.getElem?_drop] at this;rw [hj] at this;exact this
      have p1:l'[j]? =some x2:=by
       rw [show j=j - 1+1 by omega,eqd,show j - 1+1=j by omega,← hx2];exact getD_some (by omega)
      have p2:l'[k+q]? =some y2:=by
       rw [show k+q=j - 1+0 by omega,eqd,show j - 1+0=k+q by omega,← hy2];exact getD_some (by omega)
      obtain ⟨u,hu⟩:∃ u,l'[kk]? =some u:=⟨_,getD_some (by omega)⟩;have hdr2:l.drop j=x2::l.drop (j+1):=by
       rw [← hx2,getElem!_pos l j (by omega)];exact List.drop_eq_getElem_cons (by omega)
      have hg2:cpt lt l=l'.take kk++cptGo lt y2 (x2::l.drop (j+1)):=by
       rw [g2,hj,hdr2,show j - 1=k+q by omega,hy2]
      have P1:=hid p1;have P2:=hid p2;have HX2:=hid hx2;have HG2:=hid hg2;have HU:=hid hu;have HJ:=hid hj;have HQ:=hid hq;have HL':=hid hl';have c1:(q:Int) < (M:Int):=by omega
      have c2:IntKind.i64.wrap ((k2:Int) - 1)=(q:Int):=by rw [IntKind.wrap_i64];omega
      have c3:off+k*8+k2*8=off+j*8:=by omega
      have C3:=hid c3;have kkN:(kk:Int) < (N:Int):=by omega
      clear p1 p2 hx2 hy2 hu hdr2 hg2 eqd g1 g2 hj hq hM hln hl' c3;go_wp2_with fail;refine Org.begin [] (SWL enc w0 blk off N (l')) [0,1,2,3,4,5,6,7,8,9,10,11] (by kernel_rfl) (HS.out.drew) (fun hS=> ?_);iterate 4 (refine Org.yV (SM.of hS) ?_;try simp only [aS,aN,aA,a0,a1])
      (refine Org.yA (v:= ?_) (SM.of hS) ?_ ?_;rotate_left;(focus (intro w hSw;(try dsimp only at hSw);refine Pure.val ?_;refine (Zz08 73 (.tmp 41) rfl (by go_simp;first | done | rfl) (SWL.ld' hSw R P1.out (by first | omega | exact C3.out))).trans ?_;with_reducible rfl));try simp only [aS,aN,aA,a0,a1]);iterate 4 (refine Org.yV (SM.of hS) ?_;try simp only [aS,aN,aA,a0,a1])
      (refine Org.yA (v:= ?_) (SM.of hS) ?_ ?_;rotate_left;(focus (intro w hSw;(try dsimp only at hSw);refine Pure.val ?_;refine (Zz08 73 (.tmp 46) rfl (by go_simp;first | done | rfl) (SWL.ld' hSw R P2.out (by first | omega | exact C3.out))).trans ?_;with_reducible rfl));try simp only [aS,aN,aA,a0,a1]);refine Org.gA fun K hK=> ?_
      go_simp
      first
       | (go_at_fn g)
       | skip
      refine (HE.out _ _ hS x2 y2).mono ?_;rintro e wz ⟨rfl,hS3⟩;go_wp2_with fail;refine hK.out _ _ hS3 (fun hS2=> ?_);clear hS3;clear hK K hS;have hS:=hS2;clear hS2;try simp only [aS,aN,aA,a0,a1]
      (refine Org.yV (SM.of hS) ?_;try simp only [aS,aN,aA,a0,a1]);refine Org.done (by kernel_rfl) ?_;skip;have HS4:=hid hS;clear HS hS c2;have hj:=HJ.out;have hq:=HQ.out;have hM:=HM.out;have hr:=(HS4.out.range R P1.out).1;rw [← C3.out] at hr;have ht:=(HS4.out.range R HU.out).2;have hput:=HS4.out.put R (i:=kk) (by omega) x2;have hxn:(enc x2).length=8:=R.hk x2;have hxn1:(enc x2).toArray.all (·.oneCell')=true:=by simpa using h1 x2
      obtain ⟨ex,hexx⟩:∃ c,c=enc x2:=⟨_,rfl⟩;rw [← hexx] at hr hput hxn hxn1;have HR:=hid hr;have HT:=hid ht;have HP:=hid hput;clear hr ht hput hexx hj hq hM;go_wp2_with (first
       | ((with_reducible show wpList _ _ _ (⟨some 55,_,_,_,_,_⟩::_) _ _);go_must (refine wpList_load_mid rfl 73 (.tmp 54) rfl blk (off+k*8+k2*8) rfl ex dd HR.out HD1.out HD2.out (by rw [hxn];exact R.size) ?_))
       | ((with_reducible show wpList _ _ _ (⟨none,_,_,_,_,_⟩::_) _ _);go_must (refine wpList_store_mid rfl 73 (.tmp 56) (.tmp 55) rfl blk (off+kk*8) ex.toArray rfl rfl (by rw [show ex.toArray.size=8 by simp [hxn]];exact HT.out) (by rw [show ex.toArray.size=8 by simp [hxn]];exact R.size) hxn1 ?_)))
      ·skip
       rename_i he2
       have he3:eqv lt x2 y2=false:=by simpa using he2
       have hj:=HJ.out;have hq:=HQ.out;have hM:=HM.out;have hl':=HL'.out;go_roundw
       case rel=>
        refine ⟨kk+1,k2+1,l'.set kk x2,by go_num,by go_num,by omega,by omega,by omega,by omega,by have:=HP.out;simpa using this,?_⟩;refine ⟨?_,?_⟩
        ·rw [List.drop_set,if_pos (by omega)]
         have:=congrArg (fun z=>z.drop 1) HG.out.1
         simp only [List.drop_drop] at this;rwa [show k+k2 - 1+1=k+(k2+1) - 1 by omega] at this
        ·rw [HG2.out,show k+(k2+1) - 1=j by omega,HX2.out,show k+(k2+1)=j+1 by omega]
         simp only [cptGo,he3,Bool.false_eq_true,↓reduceIte];rw [List.take_set,ZtS (by omega),List.set_append_right _ _ (by rw [List.length_take];omega),show kk - (l'.take kk).length=0 by rw [List.length_take];omega];simp
       case measure=>simp [intOf] <;> omega
      ·skip
       rename_i he2
       have he3:eqv lt x2 y2=true:=by simpa using he2
       have hj:=HJ.out;have hq:=HQ.out;have hM:=HM.out;go_roundw
       case rel=>
        refine ⟨kk,k2+1,l',by go_num,by go_num,by omega,by omega,by omega,by omega,HS4.out,?_⟩;refine ⟨?_,?_⟩
        ·have:=congrArg (fun z=>z.drop 1) HG.out.1
         simp only [List.drop_drop] at this;rwa [show k+k2 - 1+1=k+(k2+1) - 1 by omega] at this
        ·rw [HG2.out,show k+(k2+1) - 1=j by omega,HX2.out,show k+(k2+1)=j+1 by omega]
         simp only [cptGo,he3,if_true]
       case measure=>simp [intOf] <;> omega
     ·have hlt2':¬ (k2:Int) < (M:Int):=by omega
      have hM:=HM.out;have hln:=HLN.out;have kkN:kk < N:=by omega
      have hz1:=HS.out.zero R (i:=kk) (by omega) z;have hck2:¬ cap=kk:=by omega
      have hck3:(kk:Int)≤(N:Int):=by omega
      have hck4:(kk:Int)≤(cap:Int):=by omega
      have hcl:∀ ty,(Builtin.clear_ #[43] ty #[.slice (some ⟨blk,off+kk*8,none⟩) (N - kk) (cap - kk)]).run Tryz.prog wr= .ok (.tuple #[]) (wr.setCells blk (off+kk*8) ((List.replicate (N - kk) z).flatMap enc)):=fun ty=>by
       have:=Zzbc (P:=Tryz.prog) wr 43 73 ty zv (enc z) Tryz.underlying43 HZV.out HZC.out (R.hk z) (h1 z) blk (off+kk*8) (N - kk) (cap - kk) (by omega) (by
        intro j hj;have hl':=HS.out.1;have:=(HS.out.range R (getD_some (l:=l') (i:=kk+j / 8) (by omega))).2 (j % 8) (by omega)
        rwa [show off+(kk+j / 8)*8+j % 8=off+kk*8+j by omega] at this)
       rw [this,Zzdo]
      have HZ1:=hid hz1;clear hz1 hM hln;go_wp2_with fail;go_ret
      have hg:=HG.out.2;have hM:=HM.out;have hln:=HLN.out;rw [List.drop_eq_nil_of_le (by omega)] at hg;simp only [cptGo,List.append_nil] at hg;have hl':=HS.out.1;exact ⟨_,kk,rfl,HZ1.out,by rw [hg,List.length_take];omega,by rw [hg,List.take_append_of_le_length (by rw [List.length_take];omega),ZtL (by rw [List.length_take];omega)],by omega⟩
   ·rename_i he'
    go_roundw
    case rel=>
     refine ⟨k+1,by go_num,by omega,by omega,HS3.out,?_⟩;show cpt lt l=_;rw [HF2.out,show k+1 - 1=k by omega,HX.out,HTK.out];simp only [cptGo,he',Bool.false_eq_true,↓reduceIte,List.append_assoc,List.cons_append,List.nil_append]
    case measure=>simp [intOf] <;> omega
  ·have hlt':¬ (k:Int) < (N:Int):=by omega
   obtain rfl:k=N:=by omega
   go_wp2_with fail;go_ret
   have hf:=HF.out;rw [List.drop_eq_nil_of_le (by have:=HLN.out;omega),ZtL (by have:=HLN.out;omega)] at hf;simp only [cptGo,List.append_nil] at hf;exact ⟨l,k,rfl,HS.out,by rw [hf,HLN.out],by rw [hf,ZtL (by have:=HLN.out;omega)],ZnR _⟩
end Go.Proofs.YtnknjeipfjdjoaaGreatDoor
