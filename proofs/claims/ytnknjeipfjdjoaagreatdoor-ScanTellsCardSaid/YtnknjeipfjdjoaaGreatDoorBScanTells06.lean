/- Sorted Rising PeelS DocOpen -/
import Derived.BigRegion
import Derived.Deep.DeepCutAuto
import Derived.Laws.BitsAllLaws
import Derived.BigGuardPart
import Derived.Test.YtnknjeipfjdjoaaGreatDoorBScanTells02
import Derived.Test.YtnknjeipfjdjoaaGreatDoorBScanTells05
set_option maxHeartbeats 8000000
set_option maxRecDepth 20000
set_option linter.unusedSimpArgs false
set_option linter.unusedVariables false
set_option linter.unusedSectionVars false
namespace Wells
open Go Go.RowKit
def BarK (l:List Int) (m k:Nat):Prop:=∀ a b,a < b→b < m→b≠k→l.getD a 0≤l.getD b 0
def Upto (l:List Int) (m:Nat):Prop:=∀ a b,a < b→b < m→l.getD a 0≤l.getD b 0
def swapI (l:List Int) (k:Nat):List Int:=(l.set k (l.getD (k - 1) 0)).set (k - 1) (l.getD k 0)
theorem Zz4q (l:List Int) (i:Nat) (x:Int) (h:i < l.length):(l.set i x).getD i 0=x:=by simp [ZgD,h]
theorem getD_set_ne (l:List Int) (i j:Nat) (x:Int) (h:i≠j):(l.set i x).getD j 0=l.getD j 0:=by simp [ZgD,List.getElem?_set_ne h]
theorem Zz8k (l:List Int) (k:Nat):(swapI l k).length=l.length:=by simp [swapI]
theorem Zz7m {l:List Int} {k j:Nat} (hk:0 < k) (hl:k < l.length):(swapI l k).getD j 0=if j=k - 1 then l.getD k 0 else if j=k then l.getD (k - 1) 0 else l.getD j 0:=by
 unfold swapI;by_cases h1:j=k - 1
 ·rw [if_pos h1,h1,Zz4q _ _ _ (by simp;omega)]
 ·rw [if_neg h1,getD_set_ne _ _ _ _ (fun e=>h1 e.symm)]
  by_cases h2:j=k
  ·rw [if_pos h2,h2,Zz4q _ _ _ hl]
  ·rw [if_neg h2,getD_set_ne _ _ _ _ (fun e=>h2 e.symm)]
theorem Zzdf {l:List Int} {k:Nat} (hk:0 < k) (hl:k < l.length):∀ z∈swapI l k,z∈l:=fun z hz=>by
 obtain ⟨j,hj,rfl⟩:=List.getElem_of_mem hz;rw [Zz8k] at hj;have h:=Zz7m (j:=j) hk hl;rw [ZgD,ZgE (by rw [Zz8k];exact hj)] at h;simp only [Option.getD_some] at h;rw [h];have hm:∀ i,i < l.length→l.getD i 0∈l:=fun i hi=>by rw [ZgD,ZgE hi];exact List.getElem_mem _
 split
 ·exact hm _ hl
 ·split
  ·exact hm _ (by omega)
  ·exact hm _ hj
theorem BarK.swap {l:List Int} {m k:Nat} (h:BarK l m k) (hk:0 < k) (hl:k < l.length) (hkm:k < m) (hlt:l.getD k 0 < l.getD (k - 1) 0):BarK (swapI l k) m (k - 1):=by
 intro a b hab hb hne;rw [Zz7m hk hl,Zz7m hk hl,if_neg hne];by_cases hbk:b=k
 ·rw [if_pos hbk]
  by_cases ha:a=k - 1
  ·rw [if_pos ha];omega
  ·rw [if_neg ha,if_neg (by omega)]
   exact h a (k - 1) (by omega) (by omega) (by omega)
 ·rw [if_neg hbk]
  by_cases ha:a=k - 1
  ·rw [if_pos ha]
   by_cases hkb:k < b
   ·exact h k b hkb hb (by omega)
   ·omega
  ·rw [if_neg ha]
   by_cases ha2:a=k
   ·rw [if_pos ha2]
    exact h (k - 1) b (by omega) hb (by omega)
   ·rw [if_neg ha2]
    exact h a b hab hb (by omega)
theorem Upto.bar {l:List Int} {m:Nat} (h:Upto l m):BarK l (m+1) m:=fun a b hab hb hne=>h a b hab (by omega)
theorem BarK.upto {l:List Int} {m k:Nat} (h:BarK l m k) (hs:k=0∨l.getD (k - 1) 0≤l.getD k 0):Upto l m:=fun a b hab hb=>by
 by_cases hne:b=k
 ·subst hne
  rcases hs with h0 | h1
  ·omega
  ·by_cases ha:a=b - 1
   ·subst ha;exact h1
   ·have:=h a (b - 1) (by omega) (by omega) (by omega)
    omega
 ·exact h a b hab hb hne
theorem Zz7i {w:World} {base n:Nat} {t:TypeId} {v:Value} {xs:List Value} (h:w.ownsRow base t 1 v n xs) (hn:0 < n):
  ∃ g c cur,v= .slice (some ⟨g,0,none⟩) n c∧base≤g∧Row w g t cur∧cur.length=c∧cur.take n=xs∧n≤c∧c≤maxLen:=by
 rcases h.2 with ⟨hv,h0⟩ | ⟨g,cap,cur,hv,hb,hg,hn',hc,hs,ht⟩
 ·omega
 ·refine ⟨g,cap,cur.toList,hv,hb,by simpa [Row] using hg,by simpa using hs,by simpa using ht,hn',hc⟩
theorem Zzay {w:World} {base n c g i:Nat} {t:TypeId} {xs:List Value} (h:w.ownsRow base t 1 (.slice (some ⟨g,0,none⟩) n c) n xs) (hi:i < n) (u:Value):
  (w.setCell ⟨g,i,none⟩ u).ownsRow base t 1 (.slice (some ⟨g,0,none⟩) n c) n (xs.set i u):=by
 obtain ⟨g',c',cur,e,hb,hr,hcl,hct,hnc,hcm⟩:=Zz7i h (by omega);injection e with e e2 e3;injection e with e;injection e with e _ _;subst e e3;refine ⟨by have:=h.1;simpa using this,.inr ⟨g,c,(cur.set i u).toArray,rfl,hb,hr.set i _,hnc,hcm,by simpa using hcl,?_⟩⟩;rw [← hct];simp only [Nat.mul_one,List.toList_toArray,List.take_set]
end Wells
namespace Go.Proofs.YtnknjeipfjdjoaaGreatDoor
open Go.RowKit Wells
theorem infoI4:(Tryz.prog.info? 3).map (fun i=>(i.zero,i.size,i.bytes))=some (some (.int .i64 0),1,8):=by kernel_rfl
theorem Zzc9 (B:Nat) (A:Option Addr) (l:List Int) (n c:Nat) (w:World) (h:Sl w B 1 A n (l.map iv)) (hB:B≤w.heap.size) (hn:n≤1048576):
  Calls Tryz.prog 67 #[.slice A n c] w fun e w'=>∃ A' c' l',e= .returned (.slice A' n c')∧w'.ownsRow w.heap.size 3 1 (.slice A' n c') n (l'.map iv)∧Upto l' n∧(∀ z∈l',z∈l)∧Below w.heap.size w w':=by
 obtain ⟨i0,hi,hz0,hz1,hz2⟩:=info_parts infoI4;have HL:=hid (show l.length=n by have:=h.len;simpa using this);have h1c:∀ u∈l.map iv,u.oneCell'=true:=fun u hu=>by
  obtain ⟨z,_,rfl⟩:=List.mem_map.1 hu;rfl
 go_enter Tryz.func67,Tryz.ntmps67;go_wp2_with (at_builtin;go_must (refine Zz03 rfl (.const (.slice none 0 0)) (.tmp 6) 22 rfl w.heap.size 3 i0 (.int .i64 0) 1 8 Tryz.underlying22 hi hz0 hz1 hz2 rfl (by omega) _ 0 [] rfl (World.ownsRow_nil _ _ _ _) B A n c (l.map iv) rfl h h1c n (by omega) (l.map iv) rfl (by omega) (by omega) (ZnR _) ?_);intro A1 c1 w1 o1 g1 wh1)
 have hb1:Below w.heap.size w w1:=Zz04 (Below.refl _ _) (World.ownsRow_nil w w.heap.size 3 1) g1 (ZnR _) (ZnR _);clear g1 wh1;go_loopw [10] (fun i wr=>∃ (k:Nat) (l':List Int),k≤n∧i= .int .i64 (k:Int)∧wr.ownsRow w.heap.size 3 1 (.slice A1 n c1) n (l'.map iv)∧Upto l' k∧(∀ z∈l',z∈l)∧Below w.heap.size w wr) (fun i _=>n - (intOf i).toNat)
 case atStart=>exact ⟨0,l,Nat.zero_le _,rfl,o1,(fun a b _ hb=>absurd hb (by omega)),(fun z hz=>hz),hb1⟩
 case round=>
  obtain ⟨i,li,hin,rfl,hoi,hui,hmi,hbi⟩:=hrel;by_cases hlt:i < n
  ·obtain ⟨g,c',cur,hv,hg,_⟩:=Zz7i hoi (by omega)
   injection hv with hv e2 e3;subst hv;clear e2 e3;have HU:=hid hui;have HM:=hid hmi;have HO:=hid hoi;have HBI:=hid hbi;clear hui hmi hoi hbi o1;obtain ⟨wo,hwo⟩:∃ wo,wo=wr:=⟨_,rfl⟩;rw [← hwo] at HO HBI;go_wp2_with fail;go_loopw [5] (fun k wx=>∃ (p:Nat) (l':List Int),p≤i∧k= .int .i64 (p:Int)∧wx.ownsRow w.heap.size 3 1 (.slice (some ⟨g,0,none⟩) n c1) n (l'.map iv)∧BarK l' (i+1) p∧(∀ z∈l',z∈l)∧Below w.heap.size w wx) (fun k _=>(intOf k).toNat)
   case atStart=>exact ⟨i,li,ZnR _,rfl,by rw [← hwo];exact HO.out,HU.out.bar,HM.out,by rw [← hwo];exact HBI.out⟩
   case round=>
    obtain ⟨p,l',hp,rfl,ho,hba,hme,hb⟩:=hrel;have hl':l'.length=n:=by have:=ho.1;simpa using this
    obtain ⟨_,_,cur',hv,_,hr,hcl,hct,hnc,_⟩:=Zz7i ho (by omega);injection hv with hv e2 e3;injection hv with hv;injection hv with hv e4 e5;subst hv;clear e2 e3 e4 e5;have HL':=hid hl';have HBA:=hid hba;have HME:=hid hme;have HO':=hid ho;have HB':=hid hb;have hcell:∀ j,j < n→wr.cell? ⟨g,j,none⟩=some (.int .i64 (l'.getD j 0)):=fun j hj=>by
     rw [hr.cell,← List.getElem?_take_of_lt hj,hct];exact Zz1j l' j (by omega)
    have hfz:∀ j,wr.frozen? ⟨g,j,none⟩=false:=fun j=>hr.frozen j
    have HCE:=hid hcell;have HFZ:=hid hfz;clear hl' hba hme ho hb hcell hfz hr hcl hct;rcases Nat.eq_zero_or_pos p with hp0 | hp0
    ·subst hp0
     go_wp2_with fail;go_quiet (fail)
     go_wp2_with fail;go_roundw
     case rel=>exact ⟨i+1,l',by omega,by go_num,HO'.out,HBA.out.upto (.inl rfl),HME.out,Zz01 HB'.out _⟩
     case measure=>simp [intOf];omega
    ·obtain ⟨q,rfl⟩:∃ q,p=q+1:=⟨p - 1,by omega⟩
     have cq1:=HCE.out (q+1) (by omega);have cq0:=HCE.out q (by omega);have z1:=HFZ.out (q+1);have z0:=HFZ.out q;obtain ⟨x,hx⟩:∃ x,l'.getD (q+1) 0=x:=⟨_,rfl⟩;obtain ⟨y,hy⟩:∃ y,l'.getD q 0=y:=⟨_,rfl⟩;rw [hx] at cq1;rw [hy] at cq0;have HX:=hid hx;have HY:=hid hy;clear hx hy;have k0:(0:Int) < (q:Int)+1:=by omega
     have k1:(0:Int)≤(q:Int)+1:=by omega
     have k2:(q:Int)+1 < (n:Int):=by omega
     have k3:(0:Int)≤(q:Int):=by omega
     have k4:(q:Int) < (n:Int):=by omega
     have k5:((q:Int)+1).toNat=q+1:=by omega
     have k6:IntKind.i64.wrap (q:Int)=(q:Int):=by rw [IntKind.wrap_i64];omega
     have k7:((q:Int)+1 - 1)=(q:Int):=by omega
     by_cases hxy:x < y
     ·go_wp2_with fail
      go_quiet (fail)
      go_wp2_with fail;refine Org.begin [15,17] (fun w'=>w'.cell? ⟨g,q+1,none⟩=some (.int .i64 x)∧w'.cell? ⟨g,q,none⟩=some (.int .i64 y)) [0,1,2,3,4,5,6,7,8,9,10,11,12,13,14,15,16,17] (by kernel_rfl) (⟨cq1,cq0⟩) (fun hS=> ?_);iterate 2 (refine Org.yV (SM.of hS) ?_;try simp only [aS,aN,aA,a0,a1])
      iterate 3 (refine Org.fA (v:= ?_) (SM.of hS) ?_ ?_;rotate_left;(focus (intro w;refine Pure.val ?_;go_simp;(try with_reducible rfl);done));try simp only [aS,aN,aA,a0,a1])
      iterate 5 (refine Org.yV (SM.of hS) ?_;try simp only [aS,aN,aA,a0,a1])
      iterate 3 (refine Org.fA (v:= ?_) (SM.of hS) ?_ ?_;rotate_left;(focus (intro w;refine Pure.val ?_;go_simp;(try with_reducible rfl);done));try simp only [aS,aN,aA,a0,a1])
      iterate 2 (refine Org.yV (SM.of hS) ?_;try simp only [aS,aN,aA,a0,a1])
      refine Org.mark (p:=15) rfl (by kernel_rfl) (by kernel_rfl) (by kernel_rfl) (by kernel_rfl) (fun K hK=> ?_);go_simp;refine hK.out _ _ ?_;clear hK K hS;try simp only [aS,aN,aA,a0,a1]
      (refine Org.fA (v:= ?_) (SM.past (p:=15) (by kernel_rfl) (by kernel_rfl)) ?_ ?_;rotate_left;(focus (intro w;refine Pure.val ?_;go_simp;(try with_reducible rfl);done));try simp only [aS,aN,aA,a0,a1]);refine Org.mark (p:=15) rfl (by kernel_rfl) (by kernel_rfl) (by kernel_rfl) (by kernel_rfl) (fun K hK=> ?_);go_simp;refine hK.out _ _ ?_;clear hK K;try simp only [aS,aN,aA,a0,a1]
      refine Org.done (by kernel_rfl) ?_;have how:((wr.drewN nq).drew).ownsRow w.heap.size 3 1 (.slice (some ⟨g,0,none⟩) n c1) n (l'.map iv):=HO'.out;have ho2:=Zzay (Zzay how (show q+1 < n by omega) (iv y)) (show q < n by omega) (iv x);have hsw:((l'.map iv).set (q+1) (iv y)).set q (iv x)=(swapI l' (q+1)).map iv:=by
       unfold swapI;rw [Nat.add_sub_cancel,HX.out,HY.out,List.map_set,List.map_set]
      rw [hsw] at ho2;have hb2:=((Zz05 (Zz01 HB'.out nq)).setCell (p:=(⟨g,q+1,none⟩:Addr)) (by assumption) (iv y)).setCell (p:=(⟨g,q,none⟩:Addr)) (by assumption) (iv x);have hlt2:l'.getD (q+1) 0 < l'.getD (q+1 - 1) 0:=by rw [Nat.add_sub_cancel,HX.out,HY.out];exact hxy
      have hba2:=HBA.out.swap (by omega) (show q+1 < l'.length by rw [HL'.out];omega) (by omega) hlt2;rw [Nat.add_sub_cancel] at hba2;have hme2:=fun z hz=>HME.out z (Zzdf (by omega) (show q+1 < l'.length by rw [HL'.out];omega) z hz)
      have HO2:=hid ho2;have HB2:=hid hb2;have HBA2:=hid hba2;have HME2:=hid hme2;clear how ho2 hsw hb2 hlt2 hba2 hme2 k0 k1 k2 k3 k4 k5 k6 k7;go_wp2_with fail;go_roundw
      case rel=>exact ⟨q,swapI l' (q+1),by omega,by first | rfl | go_num,HO2.out,HBA2.out,HME2.out,HB2.out⟩
      case measure=>simp [intOf]
     ·have hxn:decide (x < y)=false:=by simpa using hxy
      have hle:y≤x:=by omega
      go_wp2_with fail;go_quiet (fail)
      go_wp2_with fail;go_roundw
      case rel=>exact ⟨i+1,l',by omega,by go_num,HO'.out,HBA.out.upto (.inr (by rw [Nat.add_sub_cancel,HX.out,HY.out];exact hle)),HME.out,Zz01 HB'.out _⟩
      case measure=>simp [intOf];omega
  ·obtain rfl:i=n:=by omega
   have HU:=hid hui;have HM:=hid hmi;have HBI:=hid hbi;go_wp2_with fail;go_ret
   exact ⟨A1,c1,li,rfl,hoi,HU.out,HM.out,HBI.out⟩
end Go.Proofs.YtnknjeipfjdjoaaGreatDoor
namespace Wells
open Go Go.RowKit
def StrictUp (l:List Int):Prop:=∀ a b,a < b→b < l.length→l.getD a 0 < l.getD b 0
theorem Zzce (l:List Int) (x:Int) (a:Nat):(l++ [x]).getD a 0=if a < l.length then l.getD a 0 else if a=l.length then x else 0:=by
 simp only [ZgD,List.getElem?_append];split
 ·rfl
 ·split
  ·rename_i h;subst h;simp
  ·rename_i h1 h2
   rw [List.getElem?_eq_none (by simp;omega)];rfl
theorem StrictUp.push {l:List Int} {x:Int} (h:StrictUp l) (hx:∀ z∈l,z < x):StrictUp (l++ [x]):=by
 intro a b hab hb;simp only [List.length_append,List.length_singleton] at hb;rw [Zzce,Zzce,if_pos (by omega)];have hm:∀ i,i < l.length→l.getD i 0∈l:=fun i hi=>by rw [ZgD,ZgE hi];exact List.getElem_mem _
 by_cases hbl:b < l.length
 ·rw [if_pos hbl];exact h a b hab hbl
 ·rw [if_neg hbl,if_pos (by omega)]
  exact hx _ (hm a (by omega))
theorem StrictUp.below {l:List Int} (h:StrictUp l) {x:Int} (hle:∀ z∈l,z≤x) (hl:l= []∨l.getD (l.length - 1) 0≠x):∀ z∈l,z < x:=fun z hz=>by
 obtain ⟨j,hj,rfl⟩:=List.getElem_of_mem hz;have hm:∀ i,i < l.length→l.getD i 0∈l:=fun i hi=>by rw [ZgD,ZgE hi];exact List.getElem_mem _
 have hg:l[j]=l.getD j 0:=by rw [ZgD,ZgE hj];rfl
 rw [hg];rcases hl with h0 | h0
 ·subst h0;cases hj
 ·have h1:=hle _ (hm (l.length - 1) (by omega))
  by_cases he:j=l.length - 1
  ·subst he;omega
  ·have:=h j (l.length - 1) (by omega) (by omega)
   omega
theorem StrictUp.rise {l:List Int} (h:StrictUp l) {most:Int} (hb:∀ z∈l,0≤z∧z≤most):riseB l most=true:=by
 refine Zz0y fun k hk=> ?_
 have hm:∀ i,i < l.length→l.getD i 0∈l:=fun i hi=>by rw [ZgD,ZgE hi];exact List.getElem_mem _
 unfold riseStep;rw [Bool.and_eq_true];refine ⟨decide_eq_true (hb _ (hm k hk)),?_⟩;by_cases h0:k=0
 ·simp [h0]
 ·simp [h0]
  exact h (k - 1) k (by omega) hk
end Wells
namespace Go.Proofs.YtnknjeipfjdjoaaGreatDoor
open Go.RowKit Wells
theorem Zzbe (B:Nat) (A:Option Addr) (l:List Int) (n c:Nat) (w:World) (h:Sl w B 1 A n (l.map iv)) (hB:B≤w.heap.size) (hn:n≤1048576):
  Calls Tryz.prog 30 #[.slice A n c] w fun e w'=>∃ A' n' c' l',e= .returned (.slice A' n' c')∧w'.ownsRow w.heap.size 3 1 (.slice A' n' c') n' (l'.map iv)∧n'≤n∧StrictUp l'∧(∀ z∈l',z∈l)∧Below w.heap.size w w':=by
 obtain ⟨i0,hi,hz0,hz1,hz2⟩:=info_parts infoI4;go_enter Tryz.func30,Tryz.ntmps30;go_wp2_with fail;refine (Zzc9 B A l n c w h hB hn).mono ?_;rintro e w1 ⟨A1,c1,s,rfl,ho1,hu,hm,hb1⟩;have hsl:=Sl.own ho1;have hsn:s.length=n:=by have:=hsl.len;simpa using this
 have HU:=hid hu;have HM:=hid hm;have HSN:=hid hsn;have hz1w:=hb1.size;clear hu hm hsn;go_wp2_with fail;go_loopw [3,9] (fun v i wr=>∃ (k m:Nat) (A2:Option Addr) (c2:Nat) (r:List Int),k≤n∧i= .int .i64 (k:Int)∧v= .slice A2 m c2∧m≤k∧wr.ownsRow w1.heap.size 3 1 (.slice A2 m c2) m (r.map iv)∧StrictUp r∧(∀ z∈r,∃ j,j < k∧s.getD j 0=z)∧Below w1.heap.size w1 wr) (fun _ i _=>n - (intOf i).toNat)
 case atStart=>exact ⟨0,0,none,0, [],Nat.zero_le _,rfl,rfl,ZnR _,World.ownsRow_nil _ _ _ _,(fun a b _ hb=>by simp at hb),(fun z hz=>by cases hz),Below.refl _ _⟩
 case round=>
  obtain ⟨k,m,A2,c2,r,hk,rfl,rfl,hmk,ho,hst,hmem,hb⟩:=hrel;have hrl:r.length=m:=by have:=ho.1;simpa using this
  have HRL:=hid hrl;have HST:=hid hst;have HMEM:=hid hmem;have HO:=hid ho;have hzr:=hb.size;clear hrl hst hmem;by_cases hlt:k < n
  ·obtain ⟨b,o,rfl,hbb,hce⟩:=(hsl.below hb).get hlt (Zz1j s k (by rw [HSN.out];exact hlt))
   obtain ⟨x,hx⟩:∃ x,s.getD k 0=x:=⟨_,rfl⟩;rw [hx] at hce;have HX:=hid hx;have hle:∀ z∈r,z≤x:=fun z hz=>by
    obtain ⟨j,hj,rfl⟩:=HMEM.out z hz;rw [← HX.out];exact HU.out j k hj hlt
   have HLE:=hid hle;clear hx hle;have hpush:(r= []∨r.getD (r.length - 1) 0≠x)→StrictUp (r++ [x])∧(∀ z∈r++ [x],∃ j,j < k+1∧s.getD j 0=z):=fun hh=>by
    refine ⟨HST.out.push (HST.out.below HLE.out hh),fun z hz=> ?_⟩;rcases List.mem_append.1 hz with h1 | h1
    ·obtain ⟨j,hj,e⟩:=HMEM.out z h1
     exact ⟨j,by omega,e⟩
    ·rw [List.mem_singleton.1 h1]
     exact ⟨k,by omega,HX.out⟩
   have HP:=hid hpush;clear hpush;by_cases hm0:m=0
   ·subst hm0
    have hp:=HP.out (.inl (List.eq_nil_of_length_eq_zero HRL.out));have HP2:=hid hp;clear hp;go_wp2_with (at_builtin;go_must (refine Zz03 rfl (.tmp 26) (.tmp 28) 22 rfl w1.heap.size 3 i0 (.int .i64 0) 1 8 Tryz.underlying22 hi hz0 hz1 hz2 rfl (by omega) (.slice A2 0 c2) 0 (r.map iv) rfl (ho.alloc _) _ _ 1 1 _ rfl (Sl.fresh _ _ _ _ 1 rfl) (by simp [Value.oneCell']) 1 rfl ((r++ [x]).map iv) (by simp [iv]) (by omega) (by omega) (by simp;omega) ?_);intro A3 c3 w3 o3 g3 _)
    have hb3:=Zz04 (hb.alloc hb.size (.cells #[.int .i64 x] 3)) (ho.alloc _) g3 (ZnR _) (by simp;omega);have HB3:=hid hb3;clear hb3 g3;go_roundw
    case rel=>exact ⟨k+1,1,A3,c3,r++ [x],by omega,by go_num,rfl,by omega,o3,HP2.out.1,HP2.out.2,HB3.out⟩
    case measure=>simp [intOf];omega
   ·obtain ⟨p,rfl⟩:∃ p,m=p+1:=⟨m - 1,by omega⟩
    obtain ⟨bb,oo,hA2,_,hcl⟩:=(Sl.own ho).get (k:=p) (by omega) (Zz1j r p (by rw [HRL.out];omega));obtain ⟨y,hy⟩:∃ y,r.getD p 0=y:=⟨_,rfl⟩;rw [hy] at hcl;have HY:=hid hy;subst hA2;clear hy;by_cases hyx:y=x
    ·subst hyx
     have hmem2:∀ z∈r,∃ j,j < k+1∧s.getD j 0=z:=fun z hz=>by
      obtain ⟨j,hj,e⟩:=HMEM.out z hz;exact ⟨j,by omega,e⟩
     have HM2:=hid hmem2;clear hmem2;go_wp2_with fail;go_roundw
     case rel=>exact ⟨k+1,p+1,_,c2,r,by omega,by go_num,rfl,by omega,HO.out,HST.out,HM2.out,hb⟩
     case measure=>simp [intOf];omega
    ·have hp:=HP.out (.inr (by rw [HRL.out,Nat.add_sub_cancel,HY.out];exact hyx))
     have HP2:=hid hp;have hne:(y !=x)=true:=by simp [hyx]
     clear hp;go_wp2_with (at_builtin;go_must (refine Zz03 rfl (.tmp 26) (.tmp 28) 22 rfl w1.heap.size 3 i0 (.int .i64 0) 1 8 Tryz.underlying22 hi hz0 hz1 hz2 rfl (by omega) (.slice (some ⟨bb,oo,none⟩) (p+1) c2) (p+1) (r.map iv) rfl (ho.alloc _) _ _ 1 1 _ rfl (Sl.fresh _ _ _ _ 1 rfl) (by simp [Value.oneCell']) (p+2) rfl ((r++ [x]).map iv) (by simp [iv]) (by omega) (by omega) (by simp;omega) ?_);intro A3 c3 w3 o3 g3 _)
     have hb3:=Zz04 (hb.alloc hb.size (.cells #[.int .i64 x] 3)) (ho.alloc _) g3 (ZnR _) (by simp;omega);have HB3:=hid hb3;clear hb3 g3;go_roundw
     case rel=>exact ⟨k+1,p+2,A3,c3,r++ [x],by omega,by go_num,rfl,by omega,o3,HP2.out.1,HP2.out.2,HB3.out⟩
     case measure=>simp [intOf];omega
  ·obtain rfl:k=n:=by omega
   have hmem2:∀ z∈r,z∈l:=fun z hz=>by
    obtain ⟨j,hj,rfl⟩:=HMEM.out z hz;refine HM.out _ ?_;rw [ZgD,ZgE (by rw [HSN.out];exact hj)];exact List.getElem_mem _
   have HM2:=hid hmem2;clear hmem2;go_wp2_with fail;go_ret
   exact ⟨A2,m,c2,r,rfl,Zz0b HO.out hz1w,hmk,HST.out,HM2.out,hb1.trans (hb.mono hz1w)⟩
end Go.Proofs.YtnknjeipfjdjoaaGreatDoor
namespace Wells
open Go Go.RowKit
end Wells
namespace Go.Proofs.YtnknjeipfjdjoaaGreatDoor
open Go.RowKit Wells
structure KV (base N:Nat) (w:World) (gk gv:Nat) (vs:List Value) (S:PSt):Prop where
 k:Row w gk 4 (S.known.map Value.bool)
 v:Row w gv 33 vs
 kl:S.known.length=N
 vl:vs.length=N
 sl:S.vals.length=N
 at_:∀ i,i < N→OB base w (vs.getD i undef) (S.vals.getD i [])
 gek:base≤gk
 gev:base≤gv
section
variable {base N:Nat} {w w':World} {gk gv:Nat} {vs:List Value} {S:PSt}
theorem KV.below (h:KV base N w gk gv vs S) (hb:Below w.heap.size w w'):KV base N w' gk gv vs S:=
 ⟨h.k.below hb h.k.lt,h.v.below hb h.v.lt,h.kl,h.vl,h.sl,fun i hi=>(h.at_ i hi).below hb,h.gek,h.gev⟩
end
section
variable {w0 w w':World} {g4 g5:Nat} {sc sd:Value} {oc:List Int} {od:List Byte}
end
def LeadR (w:World) (l:List Byte) (e:Ending) (w':World):Prop:=∃ z:Int,e= .returned (.int .i64 z)∧w=w'∧((z= -1∧∀ b∈l,b=0#8)∨(0≤z∧∃ b∈l,b≠0#8))
theorem Zzhc (B:Nat) (A:Option Addr) (l:List Byte) (n c:Nat) (w:World) (h:Sl w B 1 A n (l.map bv8)) (hn:n≤1048576):
  Calls Tryz.prog 105 #[.slice A n c] w (LeadR w l):=by
 have HL:=hid (show l.length=n by have:=h.len;simpa using this);have H:=hid h;clear h;go_enter Tryz.func105,Tryz.ntmps105;go_wp2_with fail;go_loop [6] (fun i=>∃ k:Nat,k≤n∧i= .int .i64 (k:Int)∧Hid (∀ j,j < k→l.getD j 0=0#8)) (fun i=>n - (intOf i).toNat)
 case atStart=>exact ⟨0,Nat.zero_le _,rfl,hid (fun j hj=>absurd hj (by omega))⟩
 case round=>
  obtain ⟨k,hk,rfl,HK⟩:=hrel;by_cases hlt:k < n
  ·obtain ⟨b,o,e1,hb,hc⟩:=H.out.get hlt (Zz1l l k (by rw [HL.out];exact hlt))
   subst e1;obtain ⟨x,hx⟩:∃ x,l.getD k 0=x:=⟨_,rfl⟩;rw [hx] at hc;have HX:=hid hx;unfold bv8 at hc;clear hx;by_cases hx0:x=0#8
   ·have hb:((x.toNat:Int) !=0)=false:=by rw [hx0];rfl
    go_wp2_with fail;go_round
    case rel=>exact ⟨k+1,by omega,by go_num,hid (fun j hj=>by
     rcases Nat.lt_or_ge j k with h9 | h9
     ·exact HK.out j h9
     ·obtain rfl:j=k:=by omega
      rw [HX.out];exact hx0)⟩
    case measure=>simp [intOf];omega
   ·have hb:((x.toNat:Int) !=0)=true:=by
     have:x.toNat≠0:=fun h9=>hx0 (BitVec.eq_of_toNat_eq (by simpa using h9))
     simp;omega
    go_wp2_with fail;go_ret
    refine ⟨(k:Int),rfl,rfl,.inr ⟨by omega,x,?_,hx0⟩⟩;rw [← HX.out,ZgD,ZgE (by rw [HL.out];exact hlt)];exact List.getElem_mem _
  ·obtain rfl:k=n:=by omega
   go_wp2_with fail;go_ret
   exact ⟨-1,rfl,rfl,.inl ⟨rfl,fun b hb=>by
    obtain ⟨i,hi,rfl⟩:=List.getElem_of_mem hb;have:=HK.out i (by rw [← HL.out];exact hi)
    rwa [ZgD,ZgE hi] at this⟩⟩
end Go.Proofs.YtnknjeipfjdjoaaGreatDoor
