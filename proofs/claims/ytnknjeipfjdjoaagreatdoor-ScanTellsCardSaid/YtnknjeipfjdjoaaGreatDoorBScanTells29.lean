/- Reader -/
import Derived.Deep.DeepCutAuto
import Derived.BigGuardPart
import Derived.Test.YtnknjeipfjdjoaaGreatDoorBScanTells27
set_option maxHeartbeats 8000000
set_option maxRecDepth 20000
set_option linter.unusedSimpArgs false
set_option linter.unusedVariables false
namespace Wells
open Go Go.RowKit
abbrev RSt:=List Byte×Bool
def rdSome (n:Nat) (st:RSt):List Byte×RSt:=if st.1.length < n then ([],(st.1,true)) else (st.1.take n,(st.1.drop n,st.2))
def rdNum (k:Nat) (st:RSt):Int×RSt:=(numL (rdSome k st).1,(rdSome k st).2)
theorem Zz5d (n:Nat) (st:RSt):(rdSome n st).1.length≤n∧(rdSome n st).2.1.length≤st.1.length∧(rdSome n st).1.length≤st.1.length:=by
 unfold rdSome;split
 ·simp
 ·simp
  omega
theorem Zz0d (k:Nat) (st:RSt):0≤(rdNum k st).1∧(rdNum k st).1 < 256 ^ k:=by
 have h1:=Zz0w (rdSome k st).1;have h2:=(Zz5d k st).1;refine ⟨h1.1,Int.lt_of_lt_of_le h1.2 ?_⟩;have:=Nat.pow_le_pow_right (show 0 < 256 by omega) h2
 have e:∀ a:Nat,(256:Int) ^ a=((256 ^ a:Nat):Int):=fun a=>by rw [Int.natCast_pow];rfl
 rw [e,e];exact Int.ofNat_le.2 this
end Wells
namespace Go.Proofs.YtnknjeipfjdjoaaGreatDoor
open Go.RowKit Wells
def Rd (t:TypeId) (B:Nat) (w:World) (g:Nat) (st:RSt):Prop:=
 ∃ (A:Option Addr) (n c:Nat),Row w g t [.slice A n c,.bool st.2]∧Sl w B 1 A n (st.1.map bv8)∧st.1.length=n∧n≤c∧c≤9223372036854775807∧B≤g
theorem Rd.keep {t:TypeId} {B g:Nat} {w w':World} {st:RSt} (h:Rd t B w g st) (hb:Below w.heap.size w w') (hB:B≤w.heap.size):Rd t B w' g st:=by
 obtain ⟨A,n,c,h1,h2,h3,h4,h5,h6⟩:=h;exact ⟨A,n,c,h1.below hb h1.lt,h2.below (hb.mono hB),h3,h4,h5,h6⟩
def SomeP (t:TypeId) (B g:Nat) (w:World) (out:List Byte) (st':RSt) (e:Ending) (w':World):Prop:=
 (∃ A' n' c',e= .returned (.slice A' n' c')∧out.length=n'∧Sl w' B 1 A' n' (out.map bv8))∧Rd t B w' g st'∧w.grownBy w' (some g)∧w'.heap.size=w.heap.size
theorem Zz6u (B g:Nat) (st:RSt) (n:Nat) (w:World) (h:Rd 164 B w g st) (hn:n≤9223372036854775807) (out:List Byte) (st':RSt) (hs:rdSome n st=(out,st')):
  Calls Tryz.prog 147 #[.pointer (some ⟨g,0,none⟩),.int .i64 n] w (SomeP 164 B g w out st'):=by
 obtain ⟨A,m,c,hr,hsl,hlm,hmc,hc,hBg⟩:=h;have c0:=hr.cell 0;have c1:=hr.cell 1;have f0:=hr.frozen 0;have f1:=hr.frozen 1;simp only [ZgZ,ZgS] at c0 c1;have HS:=hid hs;have HLM:=hid hlm;have HR:=hid hr;have HSL:=hid hsl;clear hs hlm hr hsl;by_cases hlt:m < n
 ·have e1:(out,st')=([],(st.1,true)):=by rw [← HS.out];unfold rdSome;rw [if_pos (by rw [HLM.out];exact hlt)]
  injection e1 with e1 e2;subst e1 e2;have hlti:(m:Int) < (n:Int):=by omega
  go_enter Tryz.func147,Tryz.ntmps147;go_wp2_with fail;go_ret
  have hr2:=HR.out.set 1 (.bool true);have hg:w.grownBy (w.setCell ⟨g,1,none⟩ (.bool true)) (some g):=⟨rfl,rfl,rfl,by simp [World.setCell],fun i hi hne=>Below.heap_setCell w ⟨g,1,none⟩ _ i (fun e=>hne (by rw [e]))⟩;have hs2:Sl (w.setCell ⟨g,1,none⟩ (.bool true)) B 1 A m (st.1.map bv8):=HSL.out.below ((Below.refl B w).grown hg (by have:=HR.out.lt;omega) (fun k hk=>by injection hk with hk;omega));exact ⟨⟨none,0,0,rfl,rfl,Sl.nil_⟩,⟨A,m,c,hr2,hs2,HLM.out,hmc,hc,hBg⟩,hg,by simp [World.setCell]⟩
 ·have hge:n≤m:=by omega
  have e1:(out,st')=(st.1.take n,(st.1.drop n,st.2)):=by rw [← HS.out];unfold rdSome;rw [if_neg (by rw [HLM.out];exact hlt)]
  injection e1 with e1 e2;subst e1 e2;have hlti:¬ (m:Int) < (n:Int):=by omega
  have hnc:(n:Int)≤(c:Int):=by omega
  have hnm:(n:Int)≤(m:Int):=by omega
  by_cases hcn:c=n
  ·subst hcn
   obtain rfl:m=c:=by omega
   go_enter Tryz.func147,Tryz.ntmps147;go_wp2_with fail;go_ret
   have hr2:=HR.out.set 0 (.slice A 0 0);have hg:w.grownBy (w.setCell ⟨g,0,none⟩ (.slice A 0 0)) (some g):=⟨rfl,rfl,rfl,by simp [World.setCell],fun i hi hne=>Below.heap_setCell w ⟨g,0,none⟩ _ i (fun e=>hne (by rw [e]))⟩;have hs2:Sl (w.setCell ⟨g,0,none⟩ (.slice A 0 0)) B 1 A m (st.1.map bv8):=HSL.out.below ((Below.refl B w).grown hg (by have:=HR.out.lt;omega) (fun k hk=>by injection hk with hk;omega));have htk:st.1.take m=st.1:=ZtL (by rw [HLM.out];exact ZnR _);have hdr:st.1.drop m= []:=List.drop_of_length_le (by rw [HLM.out];exact ZnR _);refine ⟨⟨A,m,m,rfl,by rw [htk];exact HLM.out,by rw [htk];exact hs2⟩,⟨A,0,0,hr2,?_,by rw [hdr];rfl,by omega,by omega,hBg⟩,hg,by simp [World.setCell]⟩
   rw [hdr];exact Sl.nil_
  ·have hcn2:¬ (c:Int)=(n:Int):=by omega
   go_enter Tryz.func147,Tryz.ntmps147;go_wp2_with fail;go_ret
   obtain ⟨V,hV⟩:∃ V,Value.slice (Option.map (fun x=>x.add n) A) (m - n) (c - n)=V:=⟨_,rfl⟩;rw [hV];have hr2:=HR.out.set 0 V;have hg:w.grownBy (w.setCell ⟨g,0,none⟩ V) (some g):=⟨rfl,rfl,rfl,by simp [World.setCell],fun i hi hne=>Below.heap_setCell w ⟨g,0,none⟩ _ i (fun e=>hne (by rw [e]))⟩;have hs2:Sl (w.setCell ⟨g,0,none⟩ V) B 1 A m (st.1.map bv8):=HSL.out.below ((Below.refl B w).grown hg (by have:=HR.out.lt;omega) (fun k hk=>by injection hk with hk;omega));have ht:=hs2.take hge;rw [Nat.mul_one,← List.map_take] at ht;have hcut:=hs2.cut (k:=n) (m:=m) (c:=c) hge (ZnR _) hmc
   rw [if_neg hcn,Nat.mul_one,Nat.mul_one,ZtL (by rw [List.length_drop,List.length_map,HLM.out];exact ZnR _),← List.map_drop] at hcut;refine ⟨⟨A,n,c,rfl,by rw [List.length_take,HLM.out];omega,ht⟩,⟨_,m - n,c - n,by rw [hV];exact hr2,hcut,by rw [List.length_drop,HLM.out],by omega,by omega,hBg⟩,hg,by simp [World.setCell]⟩
def NumP (t:TypeId) (B g:Nat) (w:World) (z:Int) (st':RSt) (e:Ending) (w':World):Prop:=
 e= .returned (.int .i64 z)∧Rd t B w' g st'∧w.grownBy w' (some g)∧w'.heap.size=w.heap.size
theorem Zzbj (m x:Nat) (hm:m < 16777216) (hx:x < 256):bits .or .i64 ((m:Int)*256) (x:Int)=(m:Int)*256+(x:Int):=by
 show IntKind.i64.wrap ((BitVec.ofInt 64 ((m:Int)*256) ||| BitVec.ofInt 64 (x:Int)).toNat:Int)=_;have e:(m:Int)*256=((m*256:Nat):Int):=by omega
 rw [e,BitVec.ofInt_natCast,BitVec.ofInt_natCast,BitVec.toNat_or,BitVec.toNat_ofNat,BitVec.toNat_ofNat,Nat.mod_eq_of_lt (by omega),Nat.mod_eq_of_lt (by omega)];have h:=Nat.two_pow_add_eq_or_of_lt (i:=8) (b:=x) (by omega) m;rw [show m*256=2 ^ 8*m by omega,← h,IntKind.wrap_i64];omega
theorem Zz0t (B g:Nat) (st:RSt) (k:Nat) (w:World) (h:Rd 164 B w g st) (hk:k≤4) (z:Int) (st':RSt) (hs:rdNum k st=(z,st')):
  Calls Tryz.prog 138 #[.pointer (some ⟨g,0,none⟩),.int .i64 k] w (NumP 164 B g w z st'):=by
 obtain ⟨out,ho⟩:∃ q,rdSome k st=q:=⟨_,rfl⟩;obtain ⟨l,st2⟩:=out;have e1:(z,st')=(numL l,st2):=by rw [← hs];unfold rdNum;rw [ho]
 injection e1 with e1 e2;subst e1 e2;have hll:l.length≤k:=by have:=(Zz5d k st).1;rw [ho] at this;exact this
 have HO:=hid ho;clear ho hs;go_enter Tryz.func138,Tryz.ntmps138;go_wp2_with fail;refine (Zz6u B g st k w h (by omega) l st' HO.out).mono ?_;rintro e w1 ⟨⟨A,n,c,rfl,hl,hsl⟩,hrd,hg,hsz⟩;have HL:=hid hl;have hn4:n≤4:=by omega
 have HRD:=hid hrd;have HGR:=hid hg;have HSZ:=hid hsz;clear hl hrd hg hsz hll;go_wp2_with fail;go_loop [5,12] (fun v i=>∃ j:Nat,j≤n∧i= .int .i64 j∧v= .int .i64 (numL (l.take j))) (fun _ i=>n - (intOf i).toNat)
 case atStart=>exact ⟨0,by omega,rfl,rfl⟩
 case round=>
  obtain ⟨j,hj,rfl,rfl⟩:=hrel;by_cases hlt:j < n
  ·obtain ⟨b,o,rfl,hb,hc⟩:=hsl.get hlt (Zz1l l j (by rw [HL.out];exact hlt))
   have hb1:=Zz0w (l.take j);have hlj:(l.take j).length=j:=by rw [List.length_take,HL.out];omega
   rw [hlj] at hb1;have hj3:j≤3:=by omega
   have hp:(256:Int) ^ j≤16777216:=by
    rcases (show j=0∨j=1∨j=2∨j=3 by omega) with rfl | rfl | rfl | rfl <;> decide
   obtain ⟨mm,hmm⟩:∃ q:Nat,(q:Int)=numL (l.take j):=⟨(numL (l.take j)).toNat,by omega⟩;have hmlt:mm < 16777216:=by omega
   have HMM:=hid hmm;have hxlt:=(l.getD j 0).isLt;obtain ⟨x,hx⟩:∃ x,l.getD j 0=x:=⟨_,rfl⟩;have HX:=hid hx;rw [hx] at hc hxlt;unfold bv8 at hc;have hor:=Zzbj mm x.toNat hmlt (by omega);have htk:=hid (show numL (l.take (j+1))=(mm:Int)*256+(x.toNat:Int) by
    rw [ZtS (by rw [HL.out];exact hlt),Zz3e,HMM.out];have:l[j]'(by rw [HL.out];exact hlt)=x:=by rw [← HX.out,ZgD,ZgE (by rw [HL.out];exact hlt)];rfl
    rw [this])
   rw [← hmm];have hsh:IntKind.i64.wrap ((mm:Int)*256)=(mm:Int)*256:=by rw [IntKind.wrap_i64];omega
   clear hmm hx hb1 hlj hp hor;have hor:=Zzbj mm x.toNat hmlt (by omega);go_wp2_with fail;go_round
   case rel=>exact ⟨j+1,by omega,by go_num,by rw [htk.out]⟩
   case measure=>simp [intOf];omega
  ·obtain rfl:j=n:=by omega
   have hall:=hid (show l.take j=l from ZtL (by rw [HL.out];exact ZnR _));go_wp2_with fail;go_ret
   exact ⟨by rw [hall.out];rfl,HRD.out,HGR.out,HSZ.out⟩
end Go.Proofs.YtnknjeipfjdjoaaGreatDoor
