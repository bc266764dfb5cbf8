/- StbMb StbMc Swl3 StbR -/
import Derived.Test.YtnknjeipfjdjoaaGreatDoorProg
import Derived.BigGuardPart
import Derived.Deep.DeepCutAuto
import Derived.Test.YtnknjeipfjdjoaaGreatDoorBScanTells22
set_option maxHeartbeats 8000000
set_option maxRecDepth 20000
set_option linter.unusedSimpArgs false
set_option linter.unusedVariables false
set_option linter.unusedSectionVars false
namespace Go.Proofs.YtnknjeipfjdjoaaGreatDoor
open Go.RowKit Wells Go.Sort Go.Lib
variable {α:Type} [Inhabited α] {enc:α→List Value} {w0 W:World} {blk off N cap:Nat} {l:List α} {g:Nat} {cf:α→α→Int}
theorem Zz84 (ho:SOrd fun x y=>decide (cf x y < 0)) (R:RowL Tryz.prog 28 enc w0 blk off N) (hN:N≤1048576) (h1:∀ x,∀ v∈enc x,v.oneCell'=true) (eg:∀ args w,(callFunc g args).run Tryz.prog w= .ok (.enter g args) w) (hC:CmpLays Tryz.prog g #[] enc 8 cf blk off N w0):∀ (K:Nat) (A L Z S:List α) (a m b:Nat) (W:World),b - a≤K→SWL enc w0 blk off N (A++(L++(Z++S))) W→A.length=a→a+L.length=m→m+Z.length=b→a < m→m < b→Srt (fun x y=>decide (cf x y < 0)) L→Srt (fun x y=>decide (cf x y < 0)) Z→
  Calls Tryz.prog 141 #[.slice (some ⟨blk,off,none⟩) N cap,.int .i64 a,.int .i64 m,.int .i64 b,.func (.func g) #[] #[]] W fun e w'=>e= .returned (.tuple #[])∧SWL enc w0 blk off N (A++(mrg (fun x y=>decide (cf x y < 0)) L Z++S)) w':=by
 intro K;induction K with
 | zero=>intro A L Z S a m b W hK _ _ _ _ _ _;omega
 | succ K ih=>
  intro A L Z S a m b W hK h ha hm hb ham hmb hL hZ;by_cases c1:a+1=m
  ·obtain ⟨x,rfl⟩:∃ x,L= [x]:=List.length_eq_one_iff.1 (by omega)
   exact ssymAM ho R hN h1 eg hC h ha c1 hb hmb hZ
  by_cases c2:m+1=b
  ·obtain ⟨x,rfl⟩:∃ x,Z= [x]:=List.length_eq_one_iff.1 (by omega)
   exact ssymBM ho R hN h1 eg hC h ha hm c2 (by omega) hL
  have hbN:b≤N:=by have:=h.1;simp only [List.length_append] at this;omega
  obtain ⟨mid,hmid⟩:∃ mid,(a+b) / 2=mid:=⟨_,rfl⟩;obtain ⟨nn,hnn⟩:∃ nn,mid+m=nn:=⟨_,rfl⟩;obtain ⟨la,hla⟩:∃ la,m - a=la:=⟨_,rfl⟩;obtain ⟨lb,hlb⟩:∃ lb,b - m=lb:=⟨_,rfl⟩;obtain ⟨pp,hpp⟩:∃ pp,nn - 1=pp:=⟨_,rfl⟩;have t0:(m:Int) - (a:Int)=(la:Int):=by omega
  have t0':¬ (la:Int)=1:=by omega
  have t0'':((la:Int)==1)=false:=by simpa using t0'
  have t1:(b:Int) - (m:Int)=(lb:Int):=by omega
  have t1':¬ (lb:Int)=1:=by omega
  have t1'':((lb:Int)==1)=false:=by simpa using t1'
  have t2:((a:Int)+(b:Int)) / 2=(mid:Int):=by omega
  have t3:(mid:Int)+(m:Int)=(nn:Int):=by omega
  have t4:(nn:Int) - 1=(pp:Int):=by omega
  have m1:a < mid:=by omega
  have m2:mid < b:=by omega
  have py:∀ i,a≤i→i < m→(A++(L++(Z++S)))[i]? =some (L[i - a]!):=fun i h1 h2=>by
   rw [List.getElem?_append_right (by omega),show i - A.length=i - a by omega,List.getElem?_append_left (by omega),getElem!_pos L (i - a) (by omega),ZgE]
  have pz:∀ i,m≤i→i < b→(A++(L++(Z++S)))[i]? =some (Z[i - m]!):=fun i h1 h2=>by
   rw [List.getElem?_append_right (by omega),List.getElem?_append_right (by omega),show i - A.length - L.length=i - m by omega,List.getElem?_append_left (by omega),getElem!_pos Z (i - m) (by omega),ZgE]
  have HA:=hid ha;have HM:=hid hm;have HB:=hid hb;have HH:=hid h;have HC:=hid hC;have HL:=hid hL;have HZ:=hid hZ;have HO:=hid ho;have PY:=hid py;have PZ:=hid pz;have HMD:=hid hmid;have HNN:=hid hnn;have HPP:=hid hpp;have IH:=hid ih;clear h ha hm hb hC hL hZ ho py pz hmid hnn hpp hla hlb ih c1 c2;go_enter Tryz.func141,Tryz.ntmps141;go_upto_if 140 with fail
  go_cut [20,21] (fun v20 v21 wx=>∃ s0 r0:Nat,v20= .int .i64 (s0:Int)∧v21= .int .i64 (r0:Int)∧Hid (a≤s0∧s0≤r0∧r0≤m∧r0≤mid∧nn≤s0+b∧(s0=a∨s0+b=nn)∧(r0=m∨r0=mid))∧W=wx)
  case first=>as_aux_lemma=>
   have hmd:=HMD.out;have hnn:=HNN.out;by_cases hd:mid < m
   ·have hd':(mid:Int) < (m:Int):=by omega
    obtain ⟨s0,hs0⟩:∃ s0,nn - b=s0:=⟨_,rfl⟩;have e0:(nn:Int) - (b:Int)=(s0:Int):=by omega
    go_wp2_with fail;go_meet
    exact ⟨s0,mid,rfl,rfl,⟨by omega,by omega,by omega,by omega,by omega,by omega,by omega⟩,rfl⟩
   ·have hd':¬ (mid:Int) < (m:Int):=by omega
    go_wp2_with fail;go_meet
    exact ⟨a,m,rfl,rfl,⟨by omega,by omega,by omega,by omega,by omega,by omega,by omega⟩,rfl⟩
  case rest=>
  obtain ⟨s0,r0,rfl,rfl,HF0,rfl⟩:=hcut;go_wp2_with fail;go_loopw [20,21] (fun vs vr wr=>∃ (s r:Nat),vs= .int .i64 (s:Int)∧vr= .int .i64 (r:Int)∧s0≤s∧s≤r∧r≤r0∧SWL enc w0 blk off N (A++(L++(Z++S))) wr∧Hid ((s=s0∨0≤cf (Z[nn - s - m]!) (L[s - 1 - a]!))∧(r=r0∨cf (Z[nn - 1 - r - m]!) (L[r - a]!) < 0))) (fun s r _=>(intOf r).toNat - (intOf s).toNat)
  case atStart=>exact ⟨s0,r0,rfl,rfl,ZnR _,HF0.out.2.1,ZnR _,HH.out,⟨.inl rfl,.inl rfl⟩⟩
  case round=>
   obtain ⟨s,r,rfl,rfl,hs0,hsr,hr0,hs,HF⟩:=hrel;have HS:=hid hs;clear hs;by_cases hlt:s < r
   ·as_aux_lemma=>
    have hlt':(s:Int) < (r:Int):=by omega
    have hf0:=HF0.out;have hnn:=HNN.out;have hpp:=HPP.out;have hmd:=HMD.out;obtain ⟨c,hc⟩:∃ c,(s+r) / 2=c:=⟨_,rfl⟩;obtain ⟨q,hq⟩:∃ q,pp - c=q:=⟨_,rfl⟩;have c0:((s:Int)+(r:Int)) / 2=(c:Int):=by omega
    have c1:(c:Int) < (N:Int):=by omega
    have c2:(q:Int) < (N:Int):=by omega
    have c3:IntKind.i64.wrap ((pp:Int) - (c:Int))=(q:Int):=by rw [IntKind.wrap_i64];omega
    have p1:=PY.out c (by omega) (by omega);have p2:=PZ.out q (by omega) (by omega);obtain ⟨y,hy⟩:∃ y,L[c - a]! =y:=⟨_,rfl⟩;obtain ⟨z,hz⟩:∃ z,Z[q - m]! =z:=⟨_,rfl⟩;rw [hy] at p1;rw [hz] at p2;have P1:=hid p1;have P2:=hid p2;have HY1:=hid hy;have HZ1:=hid hz;have HCC:=hid hc;have HQ:=hid hq;clear p1 p2 hy hz hf0 hnn hpp hmd hc hq;go_wp2_with fail;refine Org.begin [] (SWL enc w0 blk off N (A++(L++(Z++S)))) [0,1,2,3,4,5,6,7,8,9,10,11,12,13] (by kernel_rfl) (HS.out.drew) (fun hS=> ?_);iterate 6 (refine Org.yV (SM.of hS) ?_;try simp only [aS,aN,aA,a0,a1])
    (refine Org.yA (v:= ?_) (SM.of hS) ?_ ?_;rotate_left;(focus (intro w hSw;(try dsimp only at hSw);refine Pure.val ?_;refine (Zz08 28 (.tmp 163) rfl (by go_simp;first | done | rfl) (SWL.ld hSw R P2.out)).trans ?_;with_reducible rfl));try simp only [aS,aN,aA,a0,a1]);iterate 3 (refine Org.yV (SM.of hS) ?_;try simp only [aS,aN,aA,a0,a1])
    (refine Org.yA (v:= ?_) (SM.of hS) ?_ ?_;rotate_left;(focus (intro w hSw;(try dsimp only at hSw);refine Pure.val ?_;refine (Zz08 28 (.tmp 167) rfl (by go_simp;first | done | rfl) (SWL.ld hSw R P1.out)).trans ?_;with_reducible rfl));try simp only [aS,aN,aA,a0,a1]);refine Org.gA fun K hK=> ?_
    go_simp
    first
     | (go_at_fn g)
     | skip
    refine ((SWL.cmp0 hS HC.out z y)).mono ?_;rintro e wz ⟨rfl,hS3⟩;go_wp2_with fail;refine hK.out _ _ hS3 (fun hS2=> ?_);clear hS3;clear hK K hS;have hS:=hS2;clear hS2;try simp only [aS,aN,aA,a0,a1]
    iterate 2 (refine Org.yV (SM.of hS) ?_;try simp only [aS,aN,aA,a0,a1])
    refine Org.done (by kernel_rfl) ?_;skip;have HS3:=hid hS;clear HS hS c3;have hc:=HCC.out;have hq:=HQ.out;have hpp:=HPP.out;have hf0:=HF0.out;have hnn:=HNN.out;by_cases hlv:cf z y < 0
    ·go_wp2_with fail
     ·rename_i hx
      simp [hlv] at hx
     go_roundw
     case rel=>exact ⟨s,c,rfl,rfl,hs0,by omega,by omega,HS3.out,⟨HF.out.1,.inr (by rw [HY1.out,show nn - 1 - c - m=q - m by omega,HZ1.out];exact hlv)⟩⟩
     case measure=>simp [intOf] <;> omega
    ·go_wp2_with fail
     rotate_left
     ·rename_i hx
      exfalso
      revert hx
      simp only [Bool.not_eq_false',decide_eq_true_eq];omega
     go_roundw
     case rel=>
      refine ⟨c+1,r,by go_num,rfl,by omega,by omega,by omega,HS3.out,⟨.inr ?_,HF.out.2⟩⟩;rw [show c+1 - 1 - a=c - a by omega,HY1.out,show nn - (c+1) - m=q - m by omega,HZ1.out];omega
     case measure=>simp [intOf] <;> omega
   ·have hlt':¬ (s:Int) < (r:Int):=by omega
    obtain rfl:s=r:=by omega
    obtain ⟨ee,hee⟩:∃ ee,nn - s=ee:=⟨_,rfl⟩;have hf0:=HF0.out;have hnn:=HNN.out;have hmd:=HMD.out;have e1:(nn:Int) - (s:Int)=(ee:Int):=by omega
    have e2:m≤ee∧ee≤b∧s≤mid∧s≤m∧a≤s∧ee=mid+m - s:=by omega
    have hmrg:mrg (fun x y=>decide (cf x y < 0)) L Z=mrg (fun x y=>decide (cf x y < 0)) (L.take (s - a)) (Z.take (mid - s))++mrg (fun x y=>decide (cf x y < 0)) (L.drop (s - a)) (Z.drop (mid - s)):=by
     have hm:=HM.out;have hb:=HB.out;refine Zzd0 HO.out HL.out HZ.out (by omega) (by omega) ?_ ?_
     ·rcases HF.out.1 with h | h
      ·rcases hf0.2.2.2.2.2.1 with h2 | h2
       ·exact .inl (by omega)
       ·exact .inr (.inl (by omega))
      ·refine .inr (.inr ?_)
       rw [show mid - s=nn - s - m by omega,show s - a - 1=s - 1 - a by omega];simpa using h
     ·rcases HF.out.2 with h | h
      ·rcases hf0.2.2.2.2.2.2 with h2 | h2
       ·exact .inl (by omega)
       ·exact .inr (.inl (by omega))
      ·refine .inr (.inr ?_)
       rw [show mid - s - 1=nn - 1 - s - m by omega];simpa using h
    have HMRG:=hid hmrg;have HEE:=hid e2;have hs:=HS.out;have hsp:A++(L++(Z++S))=A++(L.take (s - a)++(L.drop (s - a)++(Z.take (mid - s)++(Z.drop (mid - s)++S)))):=by
     rw [← List.append_assoc (Z.take (mid - s)),List.take_append_drop,← List.append_assoc (L.take (s - a)),List.take_append_drop]
    rw [hsp] at hs;clear HS;have HS:=hid hs;clear hs hsp hmrg hee e2 hf0 hnn hmd hlt;obtain ⟨wl,hwl⟩:∃ wl,wl=wr:=⟨_,rfl⟩;rw [← hwl] at HS ⊢;clear hwl;go_upto_region 39 with fail;go_cut [185] (fun v wx=>v= .bool (decide (s < m∧m < ee))∧wl=wx)
    case first=>as_aux_lemma=>
     by_cases d1:s < m
     ·have d1':(s:Int) < (m:Int):=by omega
      by_cases d2:m < ee
      ·have d2':(m:Int) < (ee:Int):=by omega
       go_wp2_with fail;go_meet
       exact ⟨by simp [d1,d2],rfl⟩
      ·have d2':¬ (m:Int) < (ee:Int):=by omega
       go_wp2_with fail;go_meet
       exact ⟨by simp [d2],rfl⟩
     ·have d1':¬ (s:Int) < (m:Int):=by omega
      go_wp2_with fail;go_meet
      exact ⟨by simp [d1],rfl⟩
    case rest=>
    obtain ⟨rfl,rfl⟩:=hcut;go_upto_if 185 with fail
    go_cut [] (fun wx=>SWL enc w0 blk off N (A++(L.take (s - a)++(Z.take (mid - s)++(L.drop (s - a)++(Z.drop (mid - s)++S))))) wx)
    case first=>as_aux_lemma=>
     by_cases d:s < m∧m < ee
     ·have d':decide (s < m∧m < ee)=true:=decide_eq_true d
      have hk:=Zze9 (cap:=cap) R hN h1 (A:=A++L.take (s - a)) (X:=L.drop (s - a)) (Y:=Z.take (mid - s)) (S:=Z.drop (mid - s)++S) (a:=s) (m:=m) (b:=ee) (.func (.func g) #[] #[]) (by have:=HS.out;simpa using this) (by have hA:=HA.out;have hM:=HM.out;have hB:=HB.out;have hMD:=HMD.out;have hEE:=HEE.out;have hNN:=HNN.out;have hF0:=HF0.out;simp;omega) (by have hA:=HA.out;have hM:=HM.out;have hB:=HB.out;have hMD:=HMD.out;have hEE:=HEE.out;have hNN:=HNN.out;have hF0:=HF0.out;simp;omega) (by have hA:=HA.out;have hM:=HM.out;have hB:=HB.out;have hMD:=HMD.out;have hEE:=HEE.out;have hNN:=HNN.out;have hF0:=HF0.out;simp;omega) d.1 d.2;have HK:=hid hk;clear hk;go_wp2_with fail;refine HK.out.mono ?_
      rintro e w2 ⟨rfl,hs2⟩;have HS2:=hid hs2;clear hs2;go_wp2_with fail;go_meet
      have:=HS2.out;simpa using this
     ·have d':decide (s < m∧m < ee)=false:=decide_eq_false d
      go_wp2_with fail;go_meet
      have hs:=HS.out;have e3:L.drop (s - a)++(Z.take (mid - s)++(Z.drop (mid - s)++S))=Z.take (mid - s)++(L.drop (s - a)++(Z.drop (mid - s)++S)):=by
       have hA:=HA.out;have hM:=HM.out;have hB:=HB.out;have hMD:=HMD.out;have hEE:=HEE.out;have hNN:=HNN.out;have hF0:=HF0.out;rcases Nat.lt_or_ge s m with h1 | h1
       ·have:Z.take (mid - s)= []:=by rw [show mid - s=0 by omega];rfl
        rw [this];rfl
       ·have:L.drop (s - a)= []:=List.drop_eq_nil_of_le (by omega)
        rw [this];rfl
      rw [e3] at hs;exact hs
    case rest=>
    clear HS;have HS:=hid hcut;clear hcut;generalize wc=wk at*;go_upto_region 41 with fail;go_cut [199] (fun v wx=>v= .bool (decide (a < s∧s < mid))∧wk=wx)
    case first=>as_aux_lemma=>
     by_cases d1:a < s
     ·have d1':(a:Int) < (s:Int):=by omega
      by_cases d2:s < mid
      ·have d2':(s:Int) < (mid:Int):=by omega
       go_wp2_with fail;go_meet
       exact ⟨by simp [d1,d2],rfl⟩
      ·have d2':¬ (s:Int) < (mid:Int):=by omega
       go_wp2_with fail;go_meet
       exact ⟨by simp [d2],rfl⟩
     ·have d1':¬ (a:Int) < (s:Int):=by omega
      go_wp2_with fail;go_meet
      exact ⟨by simp [d1],rfl⟩
    case rest=>
    obtain ⟨rfl,rfl⟩:=hcut;go_upto_if 199 with fail
    go_cut [] (fun wx=>SWL enc w0 blk off N (A++(mrg (fun x y=>decide (cf x y < 0)) (L.take (s - a)) (Z.take (mid - s))++(L.drop (s - a)++(Z.drop (mid - s)++S)))) wx)
    case first=>as_aux_lemma=>
     by_cases d:a < s∧s < mid
     ·have d':decide (a < s∧s < mid)=true:=decide_eq_true d
      have hk:=IH.out A (L.take (s - a)) (Z.take (mid - s)) (L.drop (s - a)++(Z.drop (mid - s)++S)) a s mid _ (by omega) HS.out HA.out (by have hA:=HA.out;have hM:=HM.out;have hB:=HB.out;have hMD:=HMD.out;have hEE:=HEE.out;have hNN:=HNN.out;have hF0:=HF0.out;simp;omega) (by have hA:=HA.out;have hM:=HM.out;have hB:=HB.out;have hMD:=HMD.out;have hEE:=HEE.out;have hNN:=HNN.out;have hF0:=HF0.out;simp;omega) d.1 d.2 (HL.out.take _) (HZ.out.take _);have HK:=hid hk;clear hk;go_wp2_with fail;refine HK.out.mono ?_;rintro e w2 ⟨rfl,hs2⟩;have HS2:=hid hs2;clear hs2;go_wp2_with fail;go_meet
      exact HS2.out
     ·have d':decide (a < s∧s < mid)=false:=decide_eq_false d
      go_wp2_with fail;go_meet
      have hs:=HS.out;have e3:L.take (s - a)++(Z.take (mid - s)++(L.drop (s - a)++(Z.drop (mid - s)++S)))=mrg (fun x y=>decide (cf x y < 0)) (L.take (s - a)) (Z.take (mid - s))++(L.drop (s - a)++(Z.drop (mid - s)++S)):=by
       have hA:=HA.out;have hM:=HM.out;have hB:=HB.out;have hMD:=HMD.out;have hEE:=HEE.out;have hNN:=HNN.out;have hF0:=HF0.out;rcases Nat.lt_or_ge a s with h1 | h1
       ·have:Z.take (mid - s)= []:=by rw [show mid - s=0 by omega];rfl
        rw [this,Zz4p];rfl
       ·have:L.take (s - a)= []:=by rw [show s - a=0 by omega];rfl
        rw [this,Zz33 (HZ.out.take _)];rfl
      rw [e3] at hs;exact hs
    case rest=>
    clear HS;have HS:=hid hcut;clear hcut;generalize wc=wj at*;go_upto_region 43 with fail;go_cut [213] (fun v wx=>v= .bool (decide (mid < ee∧ee < b))∧wj=wx)
    case first=>as_aux_lemma=>
     by_cases d1:mid < ee
     ·have d1':(mid:Int) < (ee:Int):=by omega
      by_cases d2:ee < b
      ·have d2':(ee:Int) < (b:Int):=by omega
       go_wp2_with fail;go_meet
       exact ⟨by simp [d1,d2],rfl⟩
      ·have d2':¬ (ee:Int) < (b:Int):=by omega
       go_wp2_with fail;go_meet
       exact ⟨by simp [d2],rfl⟩
     ·have d1':¬ (mid:Int) < (ee:Int):=by omega
      go_wp2_with fail;go_meet
      exact ⟨by simp [d1],rfl⟩
    case rest=>
    obtain ⟨rfl,rfl⟩:=hcut;by_cases d:mid < ee∧ee < b
    ·have d':decide (mid < ee∧ee < b)=true:=decide_eq_true d
     have hk:=IH.out (A++mrg (fun x y=>decide (cf x y < 0)) (L.take (s - a)) (Z.take (mid - s))) (L.drop (s - a)) (Z.drop (mid - s)) S mid ee b _ (by omega) (by have:=HS.out;simpa using this) (by have hA:=HA.out;have hM:=HM.out;have hB:=HB.out;have hMD:=HMD.out;have hEE:=HEE.out;have hNN:=HNN.out;have hF0:=HF0.out;simp [Zz1s];omega) (by have hA:=HA.out;have hM:=HM.out;have hB:=HB.out;have hMD:=HMD.out;have hEE:=HEE.out;have hNN:=HNN.out;have hF0:=HF0.out;simp;omega) (by have hA:=HA.out;have hM:=HM.out;have hB:=HB.out;have hMD:=HMD.out;have hEE:=HEE.out;have hNN:=HNN.out;have hF0:=HF0.out;simp;omega) d.1 d.2 (HL.out.drop _) (HZ.out.drop _);have HK:=hid hk;clear hk;go_wp2_with fail
     refine HK.out.mono ?_;rintro e w2 ⟨rfl,hs2⟩;have HS2:=hid hs2;clear hs2;go_wp2_with fail;go_end0
     refine ⟨rfl,?_⟩;have:=HS2.out
     rw [HMRG.out];simpa using this
    ·have d':decide (mid < ee∧ee < b)=false:=decide_eq_false d
     go_wp2_with fail;go_end0
     refine ⟨rfl,?_⟩;have hs:=HS.out;have e3:L.drop (s - a)++(Z.drop (mid - s)++S)=mrg (fun x y=>decide (cf x y < 0)) (L.drop (s - a)) (Z.drop (mid - s))++S:=by
      have hA:=HA.out;have hM:=HM.out;have hB:=HB.out;have hMD:=HMD.out;have hEE:=HEE.out;have hNN:=HNN.out;have hF0:=HF0.out;rcases Nat.lt_or_ge mid ee with h1 | h1
      ·have:Z.drop (mid - s)= []:=List.drop_eq_nil_of_le (by omega)
       rw [this,Zz4p];rfl
      ·have:L.drop (s - a)= []:=List.drop_eq_nil_of_le (by omega)
       rw [this,Zz33 (HZ.out.drop _)];rfl
     rw [e3] at hs;rw [HMRG.out];simpa using hs
variable {α:Type} [Inhabited α] {enc:α→List Value} {w0 W:World} {blk off N cap:Nat} {l:List α} {g:Nat} {cf:α→α→Int}
theorem Zzeu (ho:SOrd fun x y=>decide (cf x y < 0)) (R:RowL Tryz.prog 28 enc w0 blk off N) (hN:N≤1048576) (h1:∀ x,∀ v∈enc x,v.oneCell'=true) (eg:∀ args w,(callFunc g args).run Tryz.prog w= .ok (.enter g args) w) (hC:CmpLays Tryz.prog g #[] enc 8 cf blk off N w0) (h:SWL enc w0 blk off N l W):
  Calls Tryz.prog 126 #[.slice (some ⟨blk,off,none⟩) N cap,.int .i64 N,.func (.func g) #[] #[]] W fun e w'=>e= .returned (.tuple #[])∧SWL enc w0 blk off N (ssort (fun x y=>decide (cf x y < 0)) l) w':=by
 have hln:=h.1;have HH:=hid h;have HC:=hid hC;have HO:=hid ho;have HLN:=hid hln;clear h hC ho hln;go_enter Tryz.func126,Tryz.ntmps126;go_wp2_with fail;go_loopw [7,8] (fun va vb wr=>∃ (a b:Nat) (X:List α),va= .int .i64 (a:Int)∧vb= .int .i64 (b:Int)∧a+20=b∧a≤N∧SWL enc w0 blk off N (X++l.drop a) wr∧Hid (X.length=a∧X++csort (fun x y=>decide (cf x y < 0)) 20 (l.drop a)=csort (fun x y=>decide (cf x y < 0)) 20 l)) (fun a _ _=>N - (intOf a).toNat)
 case atStart=>exact ⟨0,20, [],rfl,rfl,by omega,by omega,HH.out,⟨rfl,rfl⟩⟩
 case round=>
  obtain ⟨a,b,X,rfl,rfl,hab,haN,hs,HF⟩:=hrel;have HS:=hid hs;clear hs;by_cases hb:b≤N
  ·as_aux_lemma=>
   have hb':(b:Int)≤(N:Int):=by omega
   have e0:(b:Int)+20=((b+20:Nat):Int):=by omega
   obtain ⟨f1,f2⟩:=HF.out;have hk:=Zz8y (cap:=cap) HO.out R hN h1 eg HC.out (A:=X) (L:=(l.drop a).take 20) (S:=l.drop b) (a:=a) (b:=b) (W:=wr) (by have:=HS.out;rwa [← hab,← List.drop_drop,List.take_append_drop]) f1 (by have:=HLN.out;simp;omega);have HK:=hid hk;have HAB:=hid hab;clear hk f1 f2 hab e0;go_wp2_with fail;refine HK.out.mono ?_;rintro e w2 ⟨rfl,hs2⟩;have HS2:=hid hs2;clear hs2;go_wp2_with fail;have hab:=HAB.out;have hln:=HLN.out;go_roundw
   case rel=>
    refine ⟨b,b+20,X++ssort (fun x y=>decide (cf x y < 0)) ((l.drop a).take 20),rfl,by go_num,rfl,hb,by have:=HS2.out;simpa using this,?_⟩;obtain ⟨f1,f2⟩:=HF.out;refine ⟨by simp [Zz09];omega,?_⟩;rw [← f2,Zz1e (w:=20) (l:=l.drop a) (by omega) (by simp;omega),List.drop_drop,hab,List.append_assoc]
   case measure=>simp [intOf] <;> omega
  ·have hb':¬ (b:Int)≤(N:Int):=by omega
   have hln:=HLN.out;obtain ⟨f1,f2⟩:=HF.out;have hk:=Zz8y (cap:=cap) HO.out R hN h1 eg HC.out (A:=X) (L:=l.drop a) (S:= []) (a:=a) (b:=N) (W:=wr) (by simpa using HS.out) f1 (by simp;omega);rw [← Zz11 (w:=20) (l:=l.drop a) (by simp;omega),← List.append_assoc,f2,List.append_nil] at hk;have HK:=hid hk;clear hk f1 f2 hab hln;go_wp2_with fail;refine HK.out.mono ?_;rintro e w2 ⟨rfl,hs2⟩;clear HS HF HK;have HS:=hid hs2;clear hs2;go_wp2_with fail;go_loopw [6] (fun vw wr=>∃ w:Nat,vw= .int .i64 (w:Int)∧0 < w∧w≤2*N+20∧SWL enc w0 blk off N (csort (fun x y=>decide (cf x y < 0)) w l) wr) (fun w _=>N - (intOf w).toNat)
   case atStart=>exact ⟨20,rfl,by omega,by omega,HS.out⟩
   case round=>
    obtain ⟨w,rfl,hw0,hwN,hs⟩:=hrel;clear HS;have HS:=hid hs;clear hs;by_cases hlt:w < N
    ·have hlt':(w:Int) < (N:Int):=by omega
     obtain ⟨w2,hw2⟩:∃ w2,2*w=w2:=⟨_,rfl⟩;have e1:2*(w:Int)=(w2:Int):=by omega
     have e2:(w:Int)*2=(w2:Int):=by omega
     have HW2:=hid hw2;obtain ⟨wl,hwl⟩:∃ wl,wl=wr:=⟨_,rfl⟩;rw [← hwl] at HS ⊢;clear hwl hw2;go_wp2_with fail;go_loopw [7,8] (fun va vb wr=>∃ (a b:Nat) (X:List α),va= .int .i64 (a:Int)∧vb= .int .i64 (b:Int)∧a+w2=b∧a≤N∧SWL enc w0 blk off N (X++csort (fun x y=>decide (cf x y < 0)) w (l.drop a)) wr∧Hid (X.length=a∧X++csort (fun x y=>decide (cf x y < 0)) w2 (l.drop a)=csort (fun x y=>decide (cf x y < 0)) w2 l)) (fun a _ _=>N - (intOf a).toNat)
     case atStart=>exact ⟨0,w2, [],rfl,rfl,by omega,by omega,HS.out,⟨rfl,rfl⟩⟩
     case round=>
      obtain ⟨a,b,X,rfl,rfl,hab,haN,hs,HF⟩:=hrel;clear HS;have HS:=hid hs;clear hs;by_cases hb:b≤N
      ·as_aux_lemma=>
       have hb':(b:Int)≤(N:Int):=by omega
       have hw2:=HW2.out;have hln:=HLN.out;obtain ⟨m,hm⟩:∃ m,a+w=m:=⟨_,rfl⟩;have e3:(a:Int)+(w:Int)=(m:Int):=by omega
       obtain ⟨f1,f2⟩:=HF.out;obtain ⟨g1,g2⟩:=Zz98 HO.out (w:=w) (l:=l.drop a) hw0 (by simp;omega);have hs:=HS.out;rw [g1] at hs;rw [hw2] at g2 hs;have hk:=Zz84 (cap:=cap) HO.out R hN h1 eg HC.out N X (ssort (fun x y=>decide (cf x y < 0)) ((l.drop a).take w)) (ssort (fun x y=>decide (cf x y < 0)) (((l.drop a).drop w).take w)) (csort (fun x y=>decide (cf x y < 0)) w ((l.drop a).drop w2)) a m b wr (by omega) hs f1 (by simp [Zz09];omega) (by simp [Zz09];omega) (by omega) (by omega) (Zz0q HO.out _) (Zz0q HO.out _);have HK:=hid hk;have HG:=hid g2;have HAB:=hid hab;clear hk f1 f2 hab g1 g2 hs hw2 hln hm;go_wp2_with fail;refine HK.out.mono ?_;rintro e wz ⟨rfl,hs2⟩;have HS2:=hid hs2;clear hs2
       go_wp2_with fail;have hab:=HAB.out;have hln:=HLN.out;have hw2:=HW2.out;go_roundw
       case rel=>
        obtain ⟨f1,f2⟩:=HF.out;refine ⟨b,b+w2,X++mrg (fun x y=>decide (cf x y < 0)) (ssort (fun x y=>decide (cf x y < 0)) ((l.drop a).take w)) (ssort (fun x y=>decide (cf x y < 0)) (((l.drop a).drop w).take w)),rfl,by go_num,rfl,hb,?_,?_⟩
        ·have:=HS2.out
         rw [show (l.drop a).drop w2=l.drop b by rw [List.drop_drop,hab]] at this;rw [List.append_assoc];exact this
        ·refine ⟨by simp [Zz09,Zz1s];omega,?_⟩
         rw [← f2,HG.out,show (l.drop a).drop w2=l.drop b by rw [List.drop_drop,hab],List.append_assoc]
       case measure=>simp [intOf] <;> omega
      ·have hb':¬ (b:Int)≤(N:Int):=by omega
       have hw2:=HW2.out;have hln:=HLN.out;obtain ⟨m,hm⟩:∃ m,a+w=m:=⟨_,rfl⟩;have e3:(a:Int)+(w:Int)=(m:Int):=by omega
       obtain ⟨f1,f2⟩:=HF.out;by_cases hmN:m < N
       ·as_aux_lemma=>
        have hmN':(m:Int) < (N:Int):=by omega
        obtain ⟨g1,g2⟩:=Zz6q HO.out (w:=w) (l:=l.drop a) hw0 (by simp;omega) (by simp;omega);have hs:=HS.out;rw [g1] at hs;rw [hw2] at g2;have hk:=Zz84 (cap:=cap) HO.out R hN h1 eg HC.out N X (ssort (fun x y=>decide (cf x y < 0)) ((l.drop a).take w)) (ssort (fun x y=>decide (cf x y < 0)) ((l.drop a).drop w)) [] a m N wr (by omega) (by simpa using hs) f1 (by simp [Zz09];omega) (by simp [Zz09];omega) (by omega) (by omega) (Zz0q HO.out _) (Zz0q HO.out _);rw [List.append_nil,← g2,f2] at hk;have HK:=hid hk;clear hk f1 f2 hab g1 g2 hs hw2 hln hm;go_wp2_with fail;refine HK.out.mono ?_;rintro e wz ⟨rfl,hs2⟩;have HS2:=hid hs2;clear hs2;go_wp2_with fail;have hw2:=HW2.out;go_roundw
        case rel=>exact ⟨w2,rfl,by omega,by omega,HS2.out⟩
        case measure=>simp [intOf] <;> omega
       ·as_aux_lemma=>
        have hmN':¬ (m:Int) < (N:Int):=by omega
        have hs:=HS.out;rw [Zz3l hw0 (by simp;omega),← Zz11 (w:=w2) (l:=l.drop a) (by simp;omega),f2] at hs;have HS2:=hid hs;clear f1 f2 hab hs hln hm hw2;go_wp2_with fail;have hw2:=HW2.out;go_roundw
        case rel=>exact ⟨w2,rfl,by omega,by omega,HS2.out⟩
        case measure=>simp [intOf] <;> omega
    ·have hlt':¬ (w:Int) < (N:Int):=by omega
     go_wp2_with fail;go_end0
     refine ⟨rfl,?_⟩;have:=HS.out
     rwa [Zz3l hw0 (by have:=HLN.out;omega)] at this
theorem Zz7k (ho:SOrd fun x y=>decide (cf x y < 0)) (R:RowL Tryz.prog 28 enc w0 blk off N) (hN:N≤1048576) (h1:∀ x,∀ v∈enc x,v.oneCell'=true) (eg:∀ args w,(callFunc g args).run Tryz.prog w= .ok (.enter g args) w) (hC:CmpLays Tryz.prog g #[] enc 8 cf blk off N w0) (h:SWL enc w0 blk off N l W):
  Calls Tryz.prog 103 #[.slice (some ⟨blk,off,none⟩) N cap,.func (.func g) #[] #[]] W fun e w'=>e= .returned (.tuple #[])∧SWL enc w0 blk off N (ssort (fun x y=>decide (cf x y < 0)) l) w':=by
 have hk:=Zzeu (cap:=cap) ho R hN h1 eg hC h;have HK:=hid hk;clear hk h hC ho;go_enter Tryz.func103,Tryz.ntmps103;go_wp2_with fail;refine HK.out.mono ?_;rintro e w2 ⟨rfl,hs2⟩;have HS2:=hid hs2;clear hs2;go_wp2_with fail;go_end0
 exact ⟨rfl,HS2.out⟩
end Go.Proofs.YtnknjeipfjdjoaaGreatDoor
namespace Wells
open Go Go.RowKit Go.Sort Go.Proofs Go.Lib
variable {P:Program} {α:Type} [Inhabited α] {enc:α→List Value} {w0 W:World} {blk off N:Nat} {l:List α}
theorem Zz4d (hk:∀ x,(enc x).length=8) (l:List α):(flatK enc 8 l.toArray).toList=l.flatMap enc:=by
 have hlen:∀ l:List α,(l.flatMap enc).length=l.length*8:=fun l=>by
  induction l with
  | nil=>rfl
  | cons x l ih=>rw [List.flatMap_cons,List.length_append,hk,ih,List.length_cons,Nat.add_mul];omega
 have hget:∀ (l:List α) (t:Nat),t < l.length*8→(l.flatMap enc)[t]? =some ((enc l[t / 8]!)[t % 8]!):=by
  intro l;induction l with
  | nil=>intro t ht;simp at ht
  | cons x l ih=>
   intro t ht;rw [List.flatMap_cons];by_cases h:t < 8
   ·rw [List.getElem?_append_left (by rw [hk];exact h),show t / 8=0 by omega,show t % 8=t by omega]
    simp only [List.getElem!_cons_zero];rw [getElem!_pos (enc x) t (by rw [hk];exact h),ZgE]
   ·rw [List.getElem?_append_right (by rw [hk];omega),hk,ih (t - 8) (by simp at ht;omega),show t / 8=(t - 8) / 8+1 by omega,show t % 8=(t - 8) % 8 by omega]
    rw [List.getElem!_cons_succ]
 apply List.ext_getElem?
 intro t;by_cases ht:t < l.length*8
 ·rw [hget l t ht,Array.getElem?_toList]
  simp [flatK,ht]
 ·rw [List.getElem?_eq_none (by simp;omega),List.getElem?_eq_none (by rw [hlen];omega)]
theorem Zz1o (hk:∀ x,(enc x).length=8) (l:List α):(l.flatMap enc).length=l.length*8:=by
 rw [← Zz4d hk];simp
theorem SWL.heap (h:SWL enc w0 blk 0 N l W) (hk:∀ x,(enc x).length=8) {cur:Array Value} {T:TypeId} {fr:Nat×Nat} (hb:w0.heap[blk]? =some (.cells cur T fr)) (hs:N*8≤cur.size):
  (∃ cur':Array Value,W.heap[blk]? =some (.cells cur' T fr)∧cur'.size=cur.size∧cur'.toList.take (N*8)=l.flatMap enc)∧w0.grownBy W (some blk):=by
 obtain ⟨hl,dk,h1,n,os,rfl⟩:=h;have hg:blk < w0.heap.size:=(Array.getElem?_eq_some_iff.1 hb).1;have hdk:dk=l.toArray:=by rw [← h1]
 unfold sortWorldK putRowK;constructor
 ·refine ⟨putCells id 0 (flatK enc 8 dk) cur,?_,by simp [putCells],?_⟩
  ·rw [heap_grow_old _ _ (by simpa [putRow,mapBlock] using hg)]
   simp [putRow,mapBlock,Sort.ahead,Array.getElem?_modify,hb,onCells]
  ·rw [← Zz4d hk,← hdk]
   have hsz:(flatK enc 8 dk).size=N*8:=by rw [size_flatK,← Array.length_toList,h1,hl]
   apply List.ext_getElem?
   intro j;by_cases hj:j < N*8
   ·rw [List.getElem?_take_of_lt hj,Array.getElem?_toList]
    have hj2:j < cur.size:=by omega
    simp [putCells,hj2,hsz,hj]
   ·rw [List.getElem?_take_eq_none (by omega),List.getElem?_eq_none (by rw [Array.length_toList,hsz];omega)]
 ·refine ⟨rfl,rfl,rfl,by simp [putRow,mapBlock],fun k hk' hne=> ?_⟩
  rw [heap_grow_old _ _ (by simpa [putRow,mapBlock] using hk')];have:blk≠k:=fun e=>hne (by rw [e])
  simp [putRow,mapBlock,Sort.ahead,Array.getElem?_modify,this]
theorem SWL.start (hk:∀ x,(enc x).length=8) (h1:∀ x,∀ v∈enc x,v.oneCell'=true) {T:TypeId} {base c n:Nat} {ad:Addr} (h:w0.ownsRow base T 8 (.slice (some ad) n c) n (l.flatMap enc)) (hn:l.length=n) (ha:∃ d,P.underlying T=some d∧d.isRow=true) (hsz:(P.info? T).map (·.size)=some 8):
  ∃ g cur,ad=⟨g,0,none⟩∧base≤g∧w0.heap[g]? =some (.cells cur T (0,0))∧n≤c∧c≤maxLen∧cur.size=c*8∧SWL enc w0 g 0 n l w0∧RowL P T enc w0 g 0 n:=by
 rcases h.2 with ⟨hv,_⟩ | ⟨g,cap,cur,hv,hb,hg,hnc,hcm,hcs,ht⟩
 ·cases hv
 injection hv with e1 e2 e3;injection e1 with e1;subst e1 e3;have hH:HoldsK enc 8 w0 g 0 l.toArray:=by
  intro j hj;have hj':j < n*8:=by rw [size_flatK] at hj;simpa [hn] using hj
  refine ⟨?_,by simp [World.frozen?,hg]⟩;rw [Nat.zero_add,cell_of_row w0 g j cur T (0,0) hg];have h2:cur.toList[j]? =(l.flatMap enc)[j]? :=by rw [← ht,List.getElem?_take_of_lt hj']
  rw [← Array.getElem?_toList,h2,← Zz4d hk,Array.getElem?_toList];rw [Array.getElem?_eq_getElem hj,getElem!_pos _ j hj];rfl
 exact ⟨g,cur,rfl,hb,hg,hnc,hcm,hcs,⟨hn,l.toArray,rfl,SWK.start hH⟩,⟨⟨l.toArray,by simpa using hn,⟨hk,h1,hH,(Array.getElem?_eq_some_iff.1 hg).1⟩⟩,ha,hsz⟩⟩
theorem SWL.back (h:SWL enc w0 blk 0 N l W) (hk:∀ x,(enc x).length=8) {cur:Array Value} {T:TypeId} {base c n:Nat} (hb:w0.heap[blk]? =some (.cells cur T (0,0))) (hbase:base≤blk) (hs:cur.size=c*8) (hn:n≤N) (hc:N≤c) (hcm:c≤maxLen):
  W.ownsRow base T 8 (.slice (some ⟨blk,0,none⟩) n c) n ((l.take n).flatMap enc)∧w0.grownBy W (some blk):=by
 obtain ⟨⟨cur',h1,h2,h3⟩,h4⟩:=h.heap hk hb (by rw [hs];exact Nat.mul_le_mul_right _ hc);have hl:=h.1;refine ⟨⟨by rw [Zz1o hk,List.length_take];congr 1;omega,.inr ⟨blk,c,cur',rfl,hbase,h1,by omega,hcm,by rw [h2,hs],?_⟩⟩,h4⟩;have:cur'.toList.take (n*8)=(cur'.toList.take (N*8)).take (n*8):=by rw [List.take_take];congr 1;have:=Nat.mul_le_mul_right 8 hn;omega
 rw [this,h3];have e:l.flatMap enc=(l.take n).flatMap enc++(l.drop n).flatMap enc:=by rw [← List.flatMap_append,List.take_append_drop]
 rw [e,List.take_append_of_le_length (by rw [Zz1o hk,List.length_take];have:=Nat.mul_le_mul_right 8 (show n≤min n l.length by omega);omega),ZtL (by rw [Zz1o hk,List.length_take];have:=Nat.mul_le_mul_right 8 (show min n l.length≤n by omega);omega)]
end Wells
namespace Go.Proofs.YtnknjeipfjdjoaaGreatDoor
open Go.RowKit Wells Go.Sort Go.Lib
variable {α:Type} [Inhabited α] {enc:α→List Value} {w0 W:World} {blk off N cap:Nat} {l:List α} {g:Nat} {cf:α→α→Int}
theorem Zz3w (R:RowL Tryz.prog 73 enc w0 blk off N) (hN:N≤1048576) (h1:∀ x,∀ v∈enc x,v.oneCell'=true) {A X M Y S:List α} {a b n:Nat} (fv:Value) (h:SWL enc w0 blk off N (A++(X++(M++(Y++S)))) W) (ha:A.length=a) (hx:X.length=n) (hy:Y.length=n) (hb:a+n+M.length=b):
  Calls Tryz.prog 142 #[.slice (some ⟨blk,off,none⟩) N cap,.int .i64 a,.int .i64 b,.int .i64 n,fv] W fun e w'=>e= .returned (.tuple #[])∧SWL enc w0 blk off N (A++(Y++(M++(X++S)))) w':=by
 have HL:=h.1;have HH:=hid h;have HX:=hid hx;have HY:=hid hy;have HA:=hid ha;have HB:=hid hb;have hbn:b+n≤N:=by have:=h.1;simp only [List.length_append] at this;omega
 have han:a+n≤b:=by omega
 clear h hx hy ha hb HL;go_enter Tryz.func142,Tryz.ntmps142;go_wp2
 go_loopw [10] (fun i wr=>∃ k:Nat,k≤n∧i= .int .i64 (k:Int)∧SWL enc w0 blk off N (swr A X M Y S k) wr) (fun i _=>n - (intOf i).toNat)
 case atStart=>exact ⟨0,Nat.zero_le _,rfl,by rw [Zz96];exact HH.out⟩
 case round=>
  obtain ⟨k,hk,rfl,hs⟩:=hrel;have HS:=hid hs;clear hs;by_cases hlt:k < n
  ·have hlt':(k:Int) < (n:Int):=by omega
   obtain ⟨ia,hia⟩:∃ ia,a+k=ia:=⟨_,rfl⟩;obtain ⟨ib,hib⟩:∃ ib,b+k=ib:=⟨_,rfl⟩;obtain ⟨A',M',S',x,y,hl,hl2,hA',hM'⟩:∃ A' M' S' x y,swr A X M Y S k=A'++x::(M'++y::S')∧swr A X M Y S (k+1)=A'++y::(M'++x::S')∧A'.length=ia∧ia+1+M'.length=ib:=
    Zz88 HX.out HY.out hlt (by have:=HA.out;omega) (by have:=HA.out;have:=HB.out;omega)
   have hia1:(ia:Int) < (N:Int):=by omega
   have hib1:(ib:Int) < (N:Int):=by omega
   have hwa:IntKind.i64.wrap ((a:Int)+(k:Int))=(ia:Int):=by rw [IntKind.wrap_i64];omega
   have hwb:IntKind.i64.wrap ((b:Int)+(k:Int))=(ib:Int):=by rw [IntKind.wrap_i64];omega
   have HL2:=hid hl2;clear hia hib hl2;go_wp2_with fail;have hx:=SWL.pre R HS.out hl hA';have hy:=SWL.pre R HS.out (A:=A'++x::M') (S:=S') (x:=y) (i:=ib) (by rw [hl];simp) (by simp at hA' hM' ⊢;omega);have hst:=HS.out.sts R hx hy;have hexc:=HS.out.exch R hl hA' hM';have hl1:=HS.out.drew.ld R hx;have hl2':=HS.out.drew.ld R hy;have HE:=hid hexc.1;have hxn:(enc x).length=8:=R.hk x;have hyn:(enc y).length=8:=R.hk y;have hxn1:(enc x).toArray.all (·.oneCell')=true:=by simpa using h1 x
   have hyn1:(enc y).toArray.all (·.oneCell')=true:=by simpa using h1 y
   clear hx hy hl hA' hM' hexc;obtain ⟨ex,hexx⟩:∃ c,c=enc x:=⟨_,rfl⟩;obtain ⟨ey,heyy⟩:∃ c,c=enc y:=⟨_,rfl⟩;rw [← hexx] at hl1 hxn hxn1 HE;rw [← heyy] at hl2' hyn hyn1 HE hst;clear hexx heyy;obtain ⟨wq,hwq⟩:∃ wq,wq=wr:=⟨_,rfl⟩;rw [← hwq] at hl1 hl2' hst HE ⊢;clear HS hwq;refine Org.begin [21,23] (fun w'=>w'=wq.drew) [0,1,2,3,4,5,6,7,8,9,10,11,12,13,14,15,16,17,18,19,20,21,22,23] (by kernel_rfl) (rfl) (fun hS=> ?_);iterate 4 (refine Org.yV (SM.of hS) ?_;try simp only [aS,aN,aA,a0,a1])
   iterate 4 (refine Org.fA (v:= ?_) (SM.of hS) ?_ ?_;rotate_left;(focus (intro w;refine Pure.val ?_;go_simp;(try with_reducible rfl);done));try simp only [aS,aN,aA,a0,a1])
   iterate 5 (refine Org.yV (SM.of hS) ?_;try simp only [aS,aN,aA,a0,a1])
   (refine Org.yA (v:= ?_) (SM.of hS) ?_ ?_;rotate_left;(focus (intro w hSw;(try dsimp only at hSw);rw [hSw];refine Pure.val ?_;refine (Zz08 73 (.tmp 28) rfl (by go_simp;first | done | rfl) hl2').trans ?_;with_reducible rfl));try simp only [aS,aN,aA,a0,a1]);iterate 5 (refine Org.fA (v:= ?_) (SM.of hS) ?_ ?_;rotate_left;(focus (intro w;refine Pure.val ?_;go_simp;(try with_reducible rfl);done));try simp only [aS,aN,aA,a0,a1])
   (refine Org.yA (v:= ?_) (SM.of hS) ?_ ?_;rotate_left;(focus (intro w hSw;(try dsimp only at hSw);rw [hSw];refine Pure.val ?_;refine (Zz08 73 (.tmp 34) rfl (by go_simp;first | done | rfl) hl1).trans ?_;with_reducible rfl));try simp only [aS,aN,aA,a0,a1]);(refine Org.yV (SM.of hS) ?_;try simp only [aS,aN,aA,a0,a1]);refine Org.mark (p:=21) rfl (by kernel_rfl) (by kernel_rfl) (by kernel_rfl) (by kernel_rfl) (fun K hK=> ?_);refine wp_store_mid 73 (.tmp 36) (.tmp 29) rfl blk (off+ia*8) (ey).toArray (by go_simp;first | done | rfl) (by go_simp;first | done | rfl) (by rw [show (ey).toArray.size=8 by simp [hyn]];exact hst.1) (by rw [show (ey).toArray.size=8 by simp [hyn]];exact R.size) hyn1 ?_
   refine hK.out _ _ ?_;clear hK K hS;try simp only [aS,aN,aA,a0,a1]
   (refine Org.fA (v:= ?_) (SM.past (p:=21) (by kernel_rfl) (by kernel_rfl)) ?_ ?_;rotate_left;(focus (intro w;refine Pure.val ?_;go_simp;(try with_reducible rfl);done));try simp only [aS,aN,aA,a0,a1]);refine Org.mark (p:=21) rfl (by kernel_rfl) (by kernel_rfl) (by kernel_rfl) (by kernel_rfl) (fun K hK=> ?_);refine wp_store_mid 73 (.tmp 37) (.tmp 35) rfl blk (off+ib*8) (ex).toArray (by go_simp;first | done | rfl) (by go_simp;first | done | rfl) (by rw [show (ex).toArray.size=8 by simp [hxn]];exact hst.2) (by rw [show (ex).toArray.size=8 by simp [hxn]];exact R.size) hxn1 ?_;refine hK.out _ _ ?_;clear hK K;try simp only [aS,aN,aA,a0,a1]
   refine Org.done (by kernel_rfl) ?_;skip;go_wp2_with fail;go_roundw
   case rel=>exact ⟨k+1,by omega,by go_num,by rw [HL2.out];exact HE.out⟩
   case measure=>simp [intOf] <;> omega
  ·have hlt':¬ (k:Int) < (n:Int):=by omega
   obtain rfl:k=n:=by omega
   go_wp2_with fail;go_end0
   exact ⟨rfl,by have:=HS.out;rwa [Zzfa HX.out HY.out] at this⟩
theorem Zzey (R:RowL Tryz.prog 73 enc w0 blk off N) (hN:N≤1048576) (h1:∀ x,∀ v∈enc x,v.oneCell'=true) {A X Y S:List α} {a m b:Nat} (fv:Value) (h:SWL enc w0 blk off N (A++(X++(Y++S))) W) (ha:A.length=a) (hx:a+X.length=m) (hy:m+Y.length=b) (hx0:a < m) (hy0:m < b):
  Calls Tryz.prog 128 #[.slice (some ⟨blk,off,none⟩) N cap,.int .i64 a,.int .i64 m,.int .i64 b,fv] W fun e w'=>e= .returned (.tuple #[])∧SWL enc w0 blk off N (A++(Y++(X++S))) w':=by
 have hbN:b≤N:=by have:=h.1;simp only [List.length_append] at this;omega
 obtain ⟨i0,hi0⟩:∃ i0,X.length=i0:=⟨_,rfl⟩;obtain ⟨j0,hj0⟩:∃ j0,Y.length=j0:=⟨_,rfl⟩;have HA:=hid ha;have HI:=hid hi0;have HJ:=hid hj0;have HH:=hid h;have hi1:a+i0=m:=by omega
 have hj1:m+j0=b:=by omega
 have hw1:IntKind.i64.wrap ((m:Int) - (a:Int))=(i0:Int):=by rw [IntKind.wrap_i64];omega
 have hw2:IntKind.i64.wrap ((b:Int) - (m:Int))=(j0:Int):=by rw [IntKind.wrap_i64];omega
 have hw1':(m:Int) - (a:Int)=(i0:Int):=by omega
 have hw2':(b:Int) - (m:Int)=(j0:Int):=by omega
 clear h hi0 hj0 ha hx hy;go_enter Tryz.func128,Tryz.ntmps128;go_wp2_with fail;go_loopw [10,11] (fun vi vj wr=>∃ (i j:Nat) (A' X' Y' S':List α),vi= .int .i64 (i:Int)∧vj= .int .i64 (j:Int)∧0 < i∧0 < j∧i≤m∧m+j≤b∧SWL enc w0 blk off N (A'++(X'++(Y'++S'))) wr∧Hid (A'.length+i=m∧X'.length=i∧Y'.length=j∧A++(Y++(X++S))=A'++(Y'++(X'++S')))) (fun i j _=>(intOf i).toNat+(intOf j).toNat)
 case atStart=>exact ⟨i0,j0,A,X,Y,S,rfl,rfl,by omega,by omega,by omega,by omega,HH.out,⟨by have:=HA.out;omega,HI.out,HJ.out,rfl⟩⟩
 case round=>
  obtain ⟨i,j,A',X',Y',S',rfl,rfl,hi,hj,him,hjb,hs,HF⟩:=hrel;have HS:=hid hs;clear hs hw1 hw2 hw1' hw2';rcases Nat.lt_trichotomy i j with hij | hij | hij
  ·have t1:¬ (i:Int)=(j:Int):=by omega
   have t2:¬ (j:Int) < (i:Int):=by omega
   obtain ⟨mi,hmi⟩:∃ mi,m - i=mi:=⟨_,rfl⟩;obtain ⟨mj,hmj⟩:∃ mj,m+j - i=mj:=⟨_,rfl⟩;obtain ⟨ji,hji⟩:∃ ji,j - i=ji:=⟨_,rfl⟩;have e1:(m:Int) - (i:Int)=(mi:Int):=by omega
   have e2:(m:Int)+(j:Int) - (i:Int)=(mj:Int):=by omega
   have e3:(j:Int) - (i:Int)=(ji:Int):=by omega
   obtain ⟨f1,f2,f3,f4⟩:=HF.out;have hk:=Zz3w (cap:=cap) R hN h1 (A:=A') (X:=X') (M:=Y'.take ji) (Y:=Y'.drop ji) (S:=S') (a:=mi) (b:=mj) (n:=i) fv (W:=wr) (by have:=HS.out;rwa [show Y'++S'=Y'.take ji++(Y'.drop ji++S') by rw [← List.append_assoc,List.take_append_drop]] at this) (by omega) f2 (by simp;omega) (by simp;omega);have HK:=hid hk;clear f1 f2 f3 f4 hk;go_wp2_with fail;try rw [e1,e2]
   refine HK.out.mono ?_;rintro e w2 ⟨rfl,hs2⟩;have HS2:=hid hs2;clear hs2;go_wp2_with fail;try rw [e3]
   go_roundw
   case rel=>
    refine ⟨i,ji,A',Y'.drop ji,Y'.take ji,X'++S',rfl,rfl,hi,by omega,him,by omega,by have:=HS2.out;simpa using this,?_⟩;obtain ⟨f1,f2,f3,f4⟩:=HF.out;refine ⟨f1,by simp;omega,by simp;omega,?_⟩;rw [f4,← List.append_assoc (Y'.take ji),List.take_append_drop]
   case measure=>simp [intOf] <;> omega
  ·subst hij
   have t1:(i:Int)=(i:Int):=rfl;obtain ⟨mi,hmi⟩:∃ mi,m - i=mi:=⟨_,rfl⟩;have e1:(m:Int) - (i:Int)=(mi:Int):=by omega
   obtain ⟨f1,f2,f3,f4⟩:=HF.out;have hk:=Zz3w (cap:=cap) R hN h1 (A:=A') (X:=X') (M:= []) (Y:=Y') (S:=S') (a:=mi) (b:=m) (n:=i) fv (W:=wr) (by have:=HS.out;simpa using this) (by omega) f2 f3 (by simp;omega);have HK:=hid hk;clear f1 f2 f3 f4 hk;go_wp2_with fail;try rw [e1]
   refine HK.out.mono ?_;rintro e w2 ⟨rfl,hs2⟩;have HS2:=hid hs2;clear hs2;go_wp2_with fail;go_end0
   refine ⟨rfl,?_⟩;obtain ⟨f1,f2,f3,f4⟩:=HF.out;rw [f4];simpa using HS2.out
  ·have t1:¬ (i:Int)=(j:Int):=by omega
   have t2:(j:Int) < (i:Int):=by omega
   obtain ⟨mi,hmi⟩:∃ mi,m - i=mi:=⟨_,rfl⟩;obtain ⟨ji,hji⟩:∃ ji,i - j=ji:=⟨_,rfl⟩;have e1:(m:Int) - (i:Int)=(mi:Int):=by omega
   have e3:(i:Int) - (j:Int)=(ji:Int):=by omega
   obtain ⟨f1,f2,f3,f4⟩:=HF.out;have hk:=Zz3w (cap:=cap) R hN h1 (A:=A') (X:=X'.take j) (M:=X'.drop j) (Y:=Y') (S:=S') (a:=mi) (b:=m) (n:=j) fv (W:=wr) (by have:=HS.out;rwa [show X'++(Y'++S')=X'.take j++(X'.drop j++(Y'++S')) by rw [← List.append_assoc (X'.take j),List.take_append_drop]] at this) (by omega) (by simp;omega) f3 (by simp;omega);have HK:=hid hk;clear f1 f2 f3 f4 hk;go_wp2_with fail;try rw [e1]
   refine HK.out.mono ?_;rintro e w2 ⟨rfl,hs2⟩;have HS2:=hid hs2;clear hs2;go_wp2_with fail;try rw [e3]
   go_roundw
   case rel=>
    refine ⟨ji,j,A'++Y',X'.drop j,X'.take j,S',rfl,rfl,by omega,hj,by omega,hjb,by have:=HS2.out;simpa using this,?_⟩;obtain ⟨f1,f2,f3,f4⟩:=HF.out;refine ⟨by simp;omega,by simp;omega,by simp;omega,?_⟩;rw [f4,← List.append_assoc (X'.take j),List.take_append_drop,List.append_assoc]
   case measure=>simp [intOf] <;> omega
theorem Zz8e (ho:SOrd fun x y=>decide (cf x y < 0)) (R:RowL Tryz.prog 73 enc w0 blk off N) (hN:N≤1048576) (h1:∀ x,∀ v∈enc x,v.oneCell'=true) (eg:∀ args w,(callFunc g args).run Tryz.prog w= .ok (.enter g args) w) (hC:CmpLays Tryz.prog g #[] enc 8 cf blk off N w0) {A L S:List α} {a b:Nat} (h:SWL enc w0 blk off N (A++(L++S)) W) (ha:A.length=a) (hb:a+L.length=b):
  Calls Tryz.prog 113 #[.slice (some ⟨blk,off,none⟩) N cap,.int .i64 a,.int .i64 b,.func (.func g) #[] #[]] W fun e w'=>e= .returned (.tuple #[])∧SWL enc w0 blk off N (A++(ssort (fun x y=>decide (cf x y < 0)) L++S)) w':=by
 have hbN:b≤N:=by have:=h.1;simp only [List.length_append] at this;omega
 have hab:a≤b:=by omega
 have HA:=hid ha;have HB:=hid hb;have HH:=hid h;have HC:=hid hC;have HO:=hid ho;clear h ha hb hC ho;go_enter Tryz.func113,Tryz.ntmps113;go_wp2_with fail;go_loopw [8] (fun vi wr=>∃ (i:Nat),vi= .int .i64 (i:Int)∧a < i∧i≤b+1∧(i≤b∨a=b)∧SWL enc w0 blk off N (A++(ssort (fun x y=>decide (cf x y < 0)) (L.take (i - a))++(L.drop (i - a)++S))) wr) (fun i _=>b+1 - (intOf i).toNat)
 case atStart=>
  refine ⟨a+1,by go_num,by omega,by omega,by omega,?_⟩;have e:ssort (fun x y=>decide (cf x y < 0)) (L.take (a+1 - a))=L.take (a+1 - a):=by
   rw [show a+1 - a=1 by omega];cases L with
   | nil=>rfl
   | cons x L=>rfl
  rw [e,← List.append_assoc (List.take _ _),List.take_append_drop];exact HH.out
 case round=>
  obtain ⟨i,rfl,hai,hib,hib2,hs⟩:=hrel;have HS:=hid hs;clear hs;by_cases hlt:i < b
  ·have hlt':(i:Int) < (b:Int):=by omega
   obtain ⟨x,hx1,hx2⟩:∃ x,L.drop (i - a)=x::L.drop (i - a+1)∧L.take (i - a+1)=L.take (i - a)++ [x]:=by
    have:i - a < L.length:=by have:=HB.out;omega
    exact ⟨L[i - a],List.drop_eq_getElem_cons this,ZtS this⟩
   obtain ⟨Z,hZ⟩:∃ Z,ssort (fun x y=>decide (cf x y < 0)) (L.take (i - a))=Z:=⟨_,rfl⟩;have hZs:Srt (fun x y=>decide (cf x y < 0)) Z:=by rw [← hZ];exact Zz0q HO.out _
   have hZl:Z.length=i - a:=by rw [← hZ,Zz09];simp;have:=HB.out;omega
   have hnx:ssort (fun x y=>decide (cf x y < 0)) (L.take (i - a+1))=ins (fun x y=>decide (cf x y < 0)) x Z:=by rw [hx2,Zz1q,hZ]
   have hs:=HS.out;rw [hZ,hx1] at hs;clear HS;have HS:=hid hs;have HNX:=hid hnx;have HZS:=hid hZs;have HZL:=hid hZl;clear hs hnx hZs hZl hZ hx1 hx2;obtain ⟨S1,hS1⟩:∃ S1,L.drop (i - a+1)++S=S1:=⟨_,rfl⟩;have HS1:=hid hS1;have hs:=HS.out;simp only [List.cons_append] at hs;rw [hS1] at hs;clear hS1 HS;have HS:=hid hs;clear hs;go_wp2_with fail;go_loopw [9] (fun vj wr2=>∃ (j:Nat) (Z1 Z2:List α),vj= .int .i64 (j:Int)∧a≤j∧j≤i∧SWL enc w0 blk off N (A++(Z1++(x::(Z2++S1)))) wr2∧Hid (a+Z1.length=j∧Z=Z1++Z2∧∀ y∈Z2,cf x y < 0)) (fun j _=>(intOf j).toNat)
   case atStart=>exact ⟨i,Z, [],rfl,by omega,ZnR _,by simpa using HS.out,⟨by have:=HZL.out;omega,by simp,fun y hy=>by cases hy⟩⟩
   case round=>
    obtain ⟨j,Z1,Z2,rfl,haj,hji,hs2,HF⟩:=hrel;clear HS;have HS:=hid hs2;clear hs2;have endd:(∀ y∈Z1,¬ cf x y < 0)→A++(Z1++(x::(Z2++S1)))=A++(ssort (fun x y=>decide (cf x y < 0)) (L.take (i+1 - a))++(L.drop (i+1 - a)++S)):=fun hn=>by
     obtain ⟨_,f2,f3⟩:=HF.out;rw [show i+1 - a=i - a+1 by omega,HNX.out,f2,Zzbs (fun y hy=>by simpa using hn y hy) (fun y hy=>by simpa using f3 y hy),HS1.out];simp
    have END:=hid endd;clear endd;by_cases hja:a < j
    ·have hja':(a:Int) < (j:Int):=by omega
     obtain ⟨ia,rfl⟩:∃ ia,j=ia+1:=⟨j - 1,by omega⟩;obtain ⟨Z0,y,hz⟩:∃ Z0 y,Z1=Z0++ [y]:=by
      have:0 < Z1.length:=by have:=HF.out.1;omega
      exact ⟨Z1.dropLast,Z1.getLast (List.ne_nil_of_length_pos this),(List.dropLast_concat_getLast _).symm⟩
     subst hz;obtain ⟨ib,hib'⟩:∃ ib,ia+1=ib:=⟨_,rfl⟩;have hl:A++(Z0++ [y]++(x::(Z2++S1)))=(A++Z0)++y::([]++x::(Z2++S1)):=by simp
     have hA':(A++Z0).length=ia:=by have:=HF.out.1;have:=HA.out;simp at*;omega
     have hM':ia+1+([]:List α).length=ib:=by simpa using hib'
     have p1:=SWL.pre R HS.out (A:=A++(Z0++ [y])) (S:=Z2++S1) (x:=x) (i:=ib) (by simp) (by simp at*;omega);have p2:=SWL.pre R HS.out hl hA';have P1:=hid p1;have P2:=hid p2;have HL:=hid hl;have HA':=hid hA';have HM':=hid hM';have ci:(ib:Int) < (N:Int):=by omega
     have ci1:(ia:Int) < (N:Int):=by omega
     have c4:(ia:Int)+1=(ib:Int):=by omega
     have c5:(a:Int) < (ib:Int):=by omega
     have c6:IntKind.i64.wrap ((ib:Int) - 1)=(ia:Int):=by rw [IntKind.wrap_i64];omega
     clear p1 p2 hl hA' hM';have hgo:(fun b=>b) (decide ((a:Int) < (ib:Int)))=true:=by simp [c5]
     go_wp2_with fail;try rw [c4]
     refine Org.begin [] (SWL enc w0 blk off N (A++(Z0++ [y]++(x::(Z2++S1))))) [0,1,2,3,4,5,6,7,8,9,10,11,12,13,14,15,16] (by kernel_rfl) (HS.out.drew) (fun hS=> ?_);iterate 8 (refine Org.yV (SM.of hS) ?_;try simp only [aS,aN,aA,a0,a1])
     (refine Org.yA (v:= ?_) (SM.of hS) ?_ ?_;rotate_left;(focus (intro w hSw;(try dsimp only at hSw);refine Pure.val ?_;refine (Zz08 73 (.tmp 25) rfl (by go_simp;first | done | rfl) (SWL.ld hSw R P1.out)).trans ?_;with_reducible rfl));try simp only [aS,aN,aA,a0,a1]);iterate 4 (refine Org.yV (SM.of hS) ?_;try simp only [aS,aN,aA,a0,a1])
     (refine Org.yA (v:= ?_) (SM.of hS) ?_ ?_;rotate_left;(focus (intro w hSw;(try dsimp only at hSw);refine Pure.val ?_;refine (Zz08 73 (.tmp 30) rfl (by go_simp;first | done | rfl) (SWL.ld hSw R P2.out)).trans ?_;with_reducible rfl));try simp only [aS,aN,aA,a0,a1]);refine Org.gA fun K hK=> ?_
     go_simp
     first
      | (go_at_fn g)
      | skip
     refine ((SWL.cmp0 hS HC.out x y)).mono ?_;rintro e wz ⟨rfl,hS3⟩;go_wp2_with fail;refine hK.out _ _ hS3 (fun hS2=> ?_);clear hS3;clear hK K hS;have hS:=hS2;clear hS2;try simp only [aS,aN,aA,a0,a1]
     iterate 2 (refine Org.yV (SM.of hS) ?_;try simp only [aS,aN,aA,a0,a1])
     refine Org.done (by kernel_rfl) ?_;skip;have HS3:=hid hS;clear HS hS;by_cases hlv:cf x y < 0
     ·have HS:=hid (show SWL enc w0 blk off N ((A++Z0)++y::([]++x::(Z2++S1))) wz by rw [← HL.out];exact HS3.out)
      clear HS3;have hA':=HA'.out;have hM':=HM'.out;go_wp2_with fail;have hx:=SWL.pre R HS.out rfl hA';have hy:=SWL.pre R HS.out (A:=(A++Z0)++y::([]:List α)) (S:=(Z2++S1)) (x:=x) (i:=ib) (by simp) (by simp at hA' hM' ⊢;omega);have hst:=HS.out.sts R hy hx;have hexc:=HS.out.exch R rfl hA' hM';have hl1:=HS.out.drew.ld R hx;have hl2':=HS.out.drew.ld R hy;have HE:=hid hexc.2;have hxn:(enc y).length=8:=R.hk y;have hyn:(enc x).length=8:=R.hk x;have hxn1:(enc y).toArray.all (·.oneCell')=true:=by simpa using h1 y
      have hyn1:(enc x).toArray.all (·.oneCell')=true:=by simpa using h1 x
      clear hx hy hA' hM' hexc;obtain ⟨ex,hexx⟩:∃ c,c=enc y:=⟨_,rfl⟩;obtain ⟨ey,heyy⟩:∃ c,c=enc x:=⟨_,rfl⟩;rw [← hexx] at hl1 hxn hxn1 HE hst;rw [← heyy] at hl2' hyn hyn1 HE;clear hexx heyy;obtain ⟨wq,hwq⟩:∃ wq,wq=wz:=⟨_,rfl⟩;rw [← hwq] at hl1 hl2' hst HE ⊢;clear HS hwq;refine Org.begin [15,17] (fun w'=>w'=wq.drew) [0,1,2,3,4,5,6,7,8,9,10,11,12,13,14,15,16,17] (by kernel_rfl) (rfl) (fun hS=> ?_);iterate 2 (refine Org.yV (SM.of hS) ?_;try simp only [aS,aN,aA,a0,a1])
      iterate 3 (refine Org.fA (v:= ?_) (SM.of hS) ?_ ?_;rotate_left;(focus (intro w;refine Pure.val ?_;go_simp;(try with_reducible rfl);done));try simp only [aS,aN,aA,a0,a1])
      iterate 4 (refine Org.yV (SM.of hS) ?_;try simp only [aS,aN,aA,a0,a1])
      (refine Org.yA (v:= ?_) (SM.of hS) ?_ ?_;rotate_left;(focus (intro w hSw;(try dsimp only at hSw);rw [hSw];refine Pure.val ?_;refine (Zz08 73 (.tmp 45) rfl (by go_simp;first | done | rfl) hl1).trans ?_;with_reducible rfl));try simp only [aS,aN,aA,a0,a1]);iterate 3 (refine Org.fA (v:= ?_) (SM.of hS) ?_ ?_;rotate_left;(focus (intro w;refine Pure.val ?_;go_simp;(try with_reducible rfl);done));try simp only [aS,aN,aA,a0,a1])
      (refine Org.yA (v:= ?_) (SM.of hS) ?_ ?_;rotate_left;(focus (intro w hSw;(try dsimp only at hSw);rw [hSw];refine Pure.val ?_;refine (Zz08 73 (.tmp 49) rfl (by go_simp;first | done | rfl) hl2').trans ?_;with_reducible rfl));try simp only [aS,aN,aA,a0,a1]);(refine Org.yV (SM.of hS) ?_;try simp only [aS,aN,aA,a0,a1]);refine Org.mark (p:=15) rfl (by kernel_rfl) (by kernel_rfl) (by kernel_rfl) (by kernel_rfl) (fun K hK=> ?_);refine wp_store_mid 73 (.tmp 51) (.tmp 46) rfl blk (off+ib*8) (ex).toArray (by go_simp;first | done | rfl) (by go_simp;first | done | rfl) (by rw [show (ex).toArray.size=8 by simp [hxn]];exact hst.1) (by rw [show (ex).toArray.size=8 by simp [hxn]];exact R.size) hxn1 ?_
      refine hK.out _ _ ?_;clear hK K hS;try simp only [aS,aN,aA,a0,a1]
      (refine Org.fA (v:= ?_) (SM.past (p:=15) (by kernel_rfl) (by kernel_rfl)) ?_ ?_;rotate_left;(focus (intro w;refine Pure.val ?_;go_simp;(try with_reducible rfl);done));try simp only [aS,aN,aA,a0,a1]);refine Org.mark (p:=15) rfl (by kernel_rfl) (by kernel_rfl) (by kernel_rfl) (by kernel_rfl) (fun K hK=> ?_);refine wp_store_mid 73 (.tmp 52) (.tmp 50) rfl blk (off+ia*8) (ey).toArray (by go_simp;first | done | rfl) (by go_simp;first | done | rfl) (by rw [show (ey).toArray.size=8 by simp [hyn]];exact hst.2) (by rw [show (ey).toArray.size=8 by simp [hyn]];exact R.size) hyn1 ?_;refine hK.out _ _ ?_;clear hK K;try simp only [aS,aN,aA,a0,a1]
      refine Org.done (by kernel_rfl) ?_;skip;go_wp2_with fail;go_roundw
      case rel=>
       refine ⟨ia,Z0,y::Z2,by go_num,by omega,by omega,by have:=HE.out;simpa using this,?_⟩;obtain ⟨f1,f2,f3⟩:=HF.out;refine ⟨by simp at f1;omega,by rw [f2];simp,fun z hz=> ?_⟩;rcases List.mem_cons.1 hz with rfl | hz
       ·exact hlv
       ·exact f3 z hz
      case measure=>simp [intOf] <;> omega
     ·go_wp2_with fail
      go_roundw
      case rel=>
       refine ⟨i+1,by go_num,by omega,by omega,by omega,?_⟩;rw [← END.out]
       ·exact HS3.out
       ·intro z hz
        have hp:=HF.out.2.1;have hs:=HZS.out;rw [hp] at hs;rcases List.mem_append.1 hz with hz | hz
        ·have h3:=(List.pairwise_append.1 (List.pairwise_append.1 hs).1).2.2 z hz y (by simp)
         have:=HO.out.le (x:=z) (y:=y) (z:=x) h3 (by simpa using hlv)
         simpa using this
        ·simp only [List.mem_singleton] at hz
         subst hz;omega
      case measure=>simp [intOf] <;> omega
    ·have hja1:decide ((j:Int) > (a:Int))=false:=decide_eq_false (by omega)
     have hja2:¬ (a:Int) < (j:Int):=by omega
     go_wp2_with fail;refine Org.begin [] (SWL enc w0 blk off N (A++(Z1++(x::(Z2++S1))))) [0,1,2,3,4,5,6,7,8,9,10,11,12,13,14,15,16] (by kernel_rfl) (HS.out.drew) (fun hS=> ?_);iterate 4 (refine Org.yV (SM.of hS) ?_;try simp only [aS,aN,aA,a0,a1])
     iterate 12 (refine Org.nA (SM.of hS) ?_;try simp only [aS,aN,aA,a0,a1])
     (refine Org.yV (SM.of hS) ?_;try simp only [aS,aN,aA,a0,a1]);refine Org.done (by kernel_rfl) ?_;skip;go_wp2_with fail;go_roundw
     case rel=>
      refine ⟨i+1,by go_num,by omega,by omega,by omega,?_⟩;rw [← END.out]
      ·exact hS
      ·intro z hz
       have:Z1= []:=List.eq_nil_of_length_eq_zero (by have:=HF.out.1;omega)
       rw [this] at hz;cases hz
     case measure=>simp [intOf] <;> omega
  ·have hlt':¬ (i:Int) < (b:Int):=by omega
   go_wp2_with fail;go_end0
   refine ⟨rfl,?_⟩;have:=HS.out
   rwa [ZtL (by have:=HB.out;omega),List.drop_eq_nil_of_le (by have:=HB.out;omega),List.nil_append] at this
end Go.Proofs.YtnknjeipfjdjoaaGreatDoor
