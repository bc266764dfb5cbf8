/- Mani3 -/
import Derived.Test.YtnknjeipfjdjoaaGreatDoorBScanTells02
import Derived.Test.YtnknjeipfjdjoaaGreatDoorBScanTells05
import Derived.Test.YtnknjeipfjdjoaaGreatDoorBScanTells11
set_option maxHeartbeats 8000000
set_option maxRecDepth 20000
set_option linter.unusedSimpArgs false
set_option linter.unusedVariables false
namespace Wells
open Go Go.RowKit
def ECells (w:World) (g:Nat) (x:Ent) (tv:Value):Prop:=
 w.cell? ⟨g,0,none⟩=some (.string (strB x.name))∧w.cell? ⟨g,1,none⟩=some (.int .i64 x.obj)∧w.cell? ⟨g,2,none⟩=some (.int .i64 x.len)∧w.cell? ⟨g,3,none⟩=some tv
theorem ECells.keep {w w':World} {g B:Nat} {x:Ent} {tv:Value} (h:ECells w g x tv) (hb:Below B w w') (hg:g < B):ECells w' g x tv:=by
 obtain ⟨h0,h1,h2,h3⟩:=h;have k:∀ i,w'.cell? ⟨g,i,none⟩=w.cell? ⟨g,i,none⟩:=fun i=>hb.cell (p:=⟨g,i,none⟩) hg
 exact ⟨(k 0).trans h0,(k 1).trans h1,(k 2).trans h2,(k 3).trans h3⟩
abbrev entObj (t:TypeId) (x:Ent) (tv:Value):Obj:= .cells #[.string (strB x.name),.int .i64 x.obj,.int .i64 x.len,tv] t
theorem ECells.of_row {w:World} {g:Nat} {t:TypeId} {x:Ent} {tv:Value} (h:Row w g t [.string (strB x.name),.int .i64 x.obj,.int .i64 x.len,tv]):ECells w g x tv:=
 ⟨h.cell 0,h.cell 1,h.cell 2,h.cell 3⟩
theorem ECells.new (w:World) (t:TypeId) (x:Ent) (tv:Value):ECells (w.alloc (entObj t x tv)) w.heap.size x tv:= .of_row (Row.new w t _)
theorem ECells.lt {w:World} {g:Nat} {x:Ent} {tv:Value} (h:ECells w g x tv):g < w.heap.size:=World.block_lt_of_cell? w _ h.1
theorem Zz7f {l:List Int} {k:Nat} (hk:k < l.length) (h:decide (0≤l.getD k 0∧l.getD k 0≤15)=false):triesOk l=false:=by
 unfold triesOk;rw [List.all_eq_false];refine ⟨l.getD k 0,?_,by rw [h];simp⟩;rw [ZgD,ZgE hk];exact List.getElem_mem _
theorem Zz5s {l:List Int} (h:∀ k,k < l.length→decide (0≤l.getD k 0∧l.getD k 0≤15)=true):triesOk l=true:=by
 unfold triesOk;rw [List.all_eq_true];intro c hc;obtain ⟨k,hk,rfl⟩:=List.getElem_of_mem hc;have:=h k hk
 rwa [ZgD,ZgE hk] at this
end Wells
namespace Go.Proofs.YtnknjeipfjdjoaaGreatDoor
open Go.RowKit Wells
theorem Zzao (B:Nat) (A:Option Addr) (l:List Int) (n c:Nat) (b:Bool) (w:World) (h:Sl w B 1 A n (l.map iv)) (hn:n≤9223372036854775807) (hb:triesOk l=b):
  Calls Tryz.prog 129 #[.slice A n c,.func (Fn.func 118) #[] #[]] w fun e w'=>(∃ r:Int,e= .returned (.int .i64 r)∧decide (0≤r)= !b)∧w=w':=by
 have HL:=hid (show l.length=n by have:=h.len;simpa using this);have HB:=hid hb;clear hb;go_enter Tryz.func129,Tryz.ntmps129;go_wp2_with fail;go_loop [8] (fun i=>∃ k:Nat,k≤n∧i= .int .i64 k∧Hid (∀ j,j < k→decide (0≤l.getD j 0∧l.getD j 0≤15)=true)) (fun i=>n - (intOf i).toNat)
 case atStart=>exact ⟨0,Nat.zero_le _,rfl,hid (fun j hj=>absurd hj (by omega))⟩
 case round=>
  obtain ⟨k,hk,rfl,HK⟩:=hrel;by_cases hlt:k < n
  ·obtain ⟨bb,o,rfl,hbb,hce⟩:=h.get hlt (Zz1j l k (by rw [HL.out];exact hlt))
   obtain ⟨x,hx⟩:∃ x,l.getD k 0=x:=⟨_,rfl⟩;have HX:=hid hx;rw [hx] at hce;clear hx;obtain ⟨bx,hbx⟩:∃ b,decide (0≤x∧x≤15)=b:=⟨_,rfl⟩;have HBX:=hid hbx;cases bx with
   | false=>
    have hno:b=false:=by rw [← HB.out];exact Zz7f (k:=k) (by rw [HL.out];exact hlt) (by rw [HX.out];exact HBX.out)
    subst hno;clear hbx;go_wp2_with fail;refine (Zzfi x false w HBX.out).mono ?_;rintro e w3 ⟨rfl,hw3⟩;rw [← hw3];clear hw3 w3;go_wp2_with fail;go_ret
    exact ⟨⟨_,rfl,by simp⟩,rfl⟩
   | true=>
    clear hbx;go_wp2_with fail;refine (Zzfi x true w HBX.out).mono ?_;rintro e w3 ⟨rfl,hw3⟩;rw [← hw3];clear hw3 w3;go_wp2_with fail;go_round
    case rel=>exact ⟨k+1,by omega,by go_num,hid (fun j hj=>by
     rcases Nat.lt_or_ge j k with h | h
     ·exact HK.out j h
     ·have e:j=k:=by omega
      rw [e,HX.out];exact HBX.out)⟩
    case measure=>simp [intOf];omega
  ·obtain rfl:k=n:=by omega
   have hyes:b=true:=by rw [← HB.out];exact Zz5s (fun j hj=>HK.out j (by rw [HL.out] at hj;exact hj))
   subst hyes;go_wp2_with fail;go_ret
   exact ⟨⟨_,rfl,by simp⟩,rfl⟩
theorem Zzaf (B:Nat) (A:Option Addr) (l:List Int) (n c:Nat) (b:Bool) (w:World) (h:Sl w B 1 A n (l.map iv)) (hn:n≤9223372036854775807) (hb:triesOk l=b):
  Calls Tryz.prog 117 #[.slice A n c,.func (Fn.func 118) #[] #[]] w fun e w'=>e= .returned (.bool (!b))∧w=w':=by
 go_enter Tryz.func117,Tryz.ntmps117;go_wp2_with fail;refine (Zzao B A l n c b w h hn hb).mono ?_;rintro e w3 ⟨⟨r,rfl,hr⟩,hw3⟩;rw [← hw3];clear hw3 w3;have HR:=hid hr;clear hr;go_wp2_with fail;go_ret
 exact ⟨Zz0a HR.out,rfl⟩
theorem Zzeq (m:Mani) (x:Ent) (B:Nat) (Ad Ao At:Option Addr) (nd cd no co nt ct:Nat) (b:Bool) (w:World) (hs:Sl w B 1 At nt (x.tries.map iv)) (hB:B≤w.heap.size) (hnt:x.tries.length=nt) (hnt2:nt≤9223372036854775807) (hnm:x.name.length≤1048576)
  (hP:m.P.may=true) (hnx:0≤m.next∧m.next≤16777216) (hxl: -9223372036854775808≤x.len∧x.len≤9223372036854775807) (hb:entB m x=b):
  Calls Tryz.prog 95 #[m.val (.slice Ad nd cd) (.slice Ao no co),x.val (.slice At nt ct)] w fun e w'=>e= .returned (.bool b)∧Below w.heap.size w w':=by
 have hpk:=Par.may_ok hP;obtain ⟨k1,k2,_,_,s1,s2⟩:=hpk;have hsz:=Par.size_le (Par.may_ok hP);unfold Par.size at hsz;obtain ⟨ks,hks⟩:∃ q,m.P.K*m.P.S=q:=⟨_,rfl⟩;rw [hks] at hsz;have hw8:IntKind.i64.wrap (ks*8)=ks*8:=by rw [IntKind.wrap_i64];omega
 obtain ⟨b1,hb1⟩:∃ q,nameOk x.name=q:=⟨_,rfl⟩;obtain ⟨b2,hb2⟩:∃ q,decide (0≤x.obj∧x.obj≤m.next - 1)=q:=⟨_,rfl⟩;obtain ⟨b3,hb3⟩:∃ q,decide (0≤x.len∧x.len≤ks*8)=q:=⟨_,rfl⟩;obtain ⟨b4,hb4⟩:∃ q,triesOk x.tries=q:=⟨_,rfl⟩;obtain ⟨cn,hcn⟩:∃ q,countP m.P x.len=q:=⟨_,rfl⟩;have hall:b=(b1 && (b2 && (b3 && (b4 && decide ((nt:Int)=cn))))):=by rw [← hb];unfold entB;rw [hks,hb1,hb2,hb3,hb4,hcn,hnt]
 have HA:=hid hall;have H1:=hid hb1;have H2:=hid hb2;have H3:=hid hb3;have H4:=hid hb4;have HC:=hid hcn;have hcm:=MCells.new w 28 m (.slice Ad nd cd) (.slice Ao no co);have hb01:Below w.heap.size w (w.alloc (maniObj 28 m (.slice Ad nd cd) (.slice Ao no co))):=(Below.refl _ _).alloc (ZnR _) _;have hce:=ECells.new (w.alloc (maniObj 28 m (.slice Ad nd cd) (.slice Ao no co))) 61 x (.slice At nt ct);have hb02:=hb01.alloc hb01.size (entObj 61 x (.slice At nt ct));have hcm2:=hcm.keep ((Below.refl (w.alloc (maniObj 28 m (.slice Ad nd cd) (.slice Ao no co))).heap.size _).alloc (ZnR _) (entObj 61 x (.slice At nt ct))) (by simp)
 have hgs:(w.alloc (maniObj 28 m (.slice Ad nd cd) (.slice Ao no co))).heap.size=w.heap.size+1:=by simp
 rw [hgs] at hce;clear hall hb1 hb2 hb3 hb4 hcn hb hb01 hcm hgs;unfold Mani.val Ent.val;go_enter Tryz.func95,Tryz.ntmps95;obtain ⟨c0,c1,c2,c3,c4,c5,c6,c7⟩:=hcm2;obtain ⟨e0,e1,e2,e3⟩:=hce;go_wp2_with fail;generalize (w.alloc (maniObj 28 m (.slice Ad nd cd) (.slice Ao no co))).alloc (entObj 61 x (.slice At nt ct))=w2 at*;have hz2:=hb02.size;refine (Zzgs x.name b1 w2 hnm H1.out).mono ?_;rintro e w3 ⟨rfl,hb3⟩;have hz3:=hb3.size;replace c1:=Zz00 hb3 c1;replace c2:=Zz00 hb3 c2;replace c3:=Zz00 hb3 c3;replace c4:=Zz00 hb3 c4;replace e1:=Zz00 hb3 e1;replace e2:=Zz00 hb3 e2;replace e3:=Zz00 hb3 e3;have hb03:=hb02.trans (hb3.mono hz2);clear hb3 hb02 c0 c5 c6 c7 e0;cases b1 with
 | false=>
  have hb:b=false:=by rw [HA.out];rfl
  subst hb;go_wp2_with fail;go_ret
  exact ⟨rfl,hb03⟩
 | true=>
 go_wp2_with fail;refine (Zz0s x.obj 0 (m.next - 1) b2 w3 H2.out).mono ?_;rintro e w4 ⟨rfl,hw4⟩;rw [← hw4];clear hw4 w4;cases b2 with
 | false=>
  have hb:b=false:=by rw [HA.out];rfl
  subst hb;go_wp2_with fail;go_ret
  exact ⟨rfl,hb03⟩
 | true=>
 go_wp2_with fail;refine (Zz0s x.len 0 (ks*8) b3 w3 H3.out).mono ?_;rintro e w4 ⟨rfl,hw4⟩;rw [← hw4];clear hw4 w4;cases b3 with
 | false=>
  have hb:b=false:=by rw [HA.out];rfl
  subst hb;go_wp2_with fail;go_ret
  exact ⟨rfl,hb03⟩
 | true=>
 have hs3:=hs.below (hb03.mono hB);go_wp2_with fail;refine (Zzaf B At x.tries nt ct b4 w3 hs3 hnt2 H4.out).mono ?_;rintro e w4 ⟨rfl,hw4⟩;rw [← hw4];clear hw4 w4;cases b4 with
 | false=>
  have hb:b=false:=by rw [HA.out];rfl
  subst hb;go_wp2_with fail;go_quiet (fail)
  go_wp2_with fail;go_ret
  exact ⟨rfl,Zz01 hb03 _⟩
 | true=>
 have hb:b=decide ((nt:Int)=cn):=by rw [HA.out];rfl
 have HBB:=hid hb;obtain ⟨P,hPm⟩:∃ P,m.P=P:=⟨_,rfl⟩;have hcn:=HC.out;have hvp:Par.val P= .agg #[.int .i64 m.P.K,.int .i64 m.P.H,.int .i64 m.P.S]:=by rw [← hPm];rfl
 rw [hPm] at hcn;have HCN:=hid hcn;have HVP:=hid hvp;clear hb hcn hPm hvp;go_wp2_with fail;go_region_held3 (fun w'=>w'.cell? ⟨w.heap.size,2,none⟩=some (.int .i64 m.P.K)∧w'.cell? ⟨w.heap.size,3,none⟩=some (.int .i64 m.P.H)∧w'.cell? ⟨w.heap.size,4,none⟩=some (.int .i64 m.P.S)∧w'.cell? ⟨w.heap.size+1,2,none⟩=some (.int .i64 x.len)∧w'.cell? ⟨w.heap.size+1,3,none⟩=some (.slice At nt ct)∧Below w3.heap.size w3 w')
  (first
   | exact H5.drew ⟨c2,c3,c4,e2,e3,Below.refl _ _⟩
   | exact H5.keep hbb (by assumption)
   | exact H5.draws (by assumption) _)
  (first
   | (go_at_call 119;rw [← HVP.out];refine (Zz92 P x.len cn _ hxl HCN.out).mono ?_;rintro e w' ⟨rfl,hbb⟩))
 have hh:=H5.below ‹_∧_∧_∧_∧_∧Below w3.heap.size w3 _›;have hbe:=hb03.trans (hh.mono (by omega));go_wp2_with fail;go_ret
 exact ⟨Zz0a (by rw [HBB.out];first | rfl | simp),hbe⟩
end Go.Proofs.YtnknjeipfjdjoaaGreatDoor
