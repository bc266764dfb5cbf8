/- Number Rec ManiMath Appd Mani1 Mani2 Trim -/
import Derived.BigGuardPart
import Derived.Laws.IdiomStrings
import Derived.Deep.QuietTactic
import Derived.BigQuiet
import Derived.Test.YtnknjeipfjdjoaaGreatDoorBScanTells01
import Derived.Test.YtnknjeipfjdjoaaGreatDoorBScanTells04
set_option maxHeartbeats 8000000
set_option maxRecDepth 20000
set_option linter.unusedSimpArgs false
set_option linter.unusedVariables false
set_option linter.unusedSectionVars false
namespace Go.Proofs.YtnknjeipfjdjoaaGreatDoor
open Go.RowKit Wells
theorem Zz8m {w:World} {base n:Nat} {t:TypeId} {v:Value} {l:List Byte} {E:Int} (h:w.ownsRow base t 1 v n (l.map bv8++ [.int .u8 E])) {b:Byte} (hb:(b.toNat:Int)=E):w.ownsRow base t 1 v n ((l++ [b]).map bv8):=by
 rw [List.map_append,List.map_cons,List.map_nil,bv8,hb];exact h
theorem Zzid (m x:Nat) (hm:m < 16777216) (hx:x < 256):bits .or .i64 ((m:Int)*256) (x:Int)=(m:Int)*256+(x:Int):=by
 show IntKind.i64.wrap ((BitVec.ofInt 64 ((m:Int)*256) ||| BitVec.ofInt 64 (x:Int)).toNat:Int)=_;have e:(m:Int)*256=((m*256:Nat):Int):=by omega
 rw [e,BitVec.ofInt_natCast,BitVec.ofInt_natCast,BitVec.toNat_or,BitVec.toNat_ofNat,BitVec.toNat_ofNat,Nat.mod_eq_of_lt (by omega),Nat.mod_eq_of_lt (by omega)];have h:=Nat.two_pow_add_eq_or_of_lt (i:=8) (b:=x) (by omega) m;rw [show m*256=2 ^ 8*m by omega,← h,IntKind.wrap_i64];omega
theorem Zzc4 (base:Nat) (A:Option Addr) (n c:Nat) (l:List Byte) (x:Int) (k:Nat) (w:World) (ho:w.ownsRow base 5 1 (.slice A n c) n (l.map bv8)) (hn:n≤1048576) (hb:base≤w.heap.size) (hx: -9223372036854775808≤x∧x≤9223372036854775807) (hk:k≤7):
  Calls Tryz.prog 111 #[.slice A n c,.int .i64 x,.int .i64 k] w fun e w'=>∃ A' c',e= .returned (.slice A' (n+k) c')∧w'.ownsRow base 5 1 (.slice A' (n+k) c') (n+k) ((l++highL k x).map bv8)∧Below base w w':=by
 obtain ⟨i0,hi,hz0,hz1,hz2⟩:=info_parts infoB;go_enter Tryz.func111,Tryz.ntmps111;go_wp2_with fail;go_loopw [0,7] (fun v i wr=>∃ (j:Nat) (A:Option Addr) (m c:Nat) (l':List Byte),j≤k∧m+j=n+k∧i= .int .i64 ((j:Int) - 1)∧v= .slice A m c∧l'++highL j x=l++highL k x∧wr.ownsRow base 5 1 (.slice A m c) m (l'.map bv8)∧Below base w wr) (fun _ i _=>(intOf i+1).toNat)
 case atStart=>exact ⟨k,A,n,c,l,by omega,rfl,rfl,rfl,rfl,ho,Below.refl _ _⟩
 case round=>
  obtain ⟨j,A,m,c,l',hj,hm,rfl,rfl,hl,ho,hbw⟩:=hrel;have hsw:base≤wr.heap.size:=by have:=hbw.size;omega
  by_cases hlt:0 < j
  ·obtain ⟨i,rfl⟩:∃ i,j=i+1:=⟨j - 1,by omega⟩
   have hHL:=hid hl;clear hl;have hji:((i+1:Nat):Int) - 1=(i:Int):=by omega
   rw [hji];have hbt:=hid (Zz0p x i);have hw8:IntKind.i64.wrap (8*(i:Int))=8*(i:Int):=by rw [IntKind.wrap_i64];omega
   go_wp2_with (at_builtin;go_must (refine Zz03 rfl (.tmp 14) (.tmp 20) 33 rfl base 5 i0 (.int .u8 0) 1 1 Tryz.underlying33 hi hz0 hz1 hz2 rfl (by omega) (.slice A m c) m _ rfl (ho.alloc _) _ _ 1 1 _ rfl (Sl.fresh _ _ _ _ 1 rfl) (by simp [Value.oneCell']) (m+1) (by omega) _ rfl (by omega) (by omega) (by simp;omega) ?_);intro A2 c2 w2 o2 g2 _)
   have b2:Below base w w2:=Zz04 (hbw.alloc hsw _) (ho.alloc _) g2 (ZnR _) (by simp;omega);go_roundw
   case rel=>exact ⟨i,A2,m+1,c2,l'++ [hiB x i],by omega,by omega,rfl,rfl,by rw [← hHL.out,List.append_assoc];rfl,Zz8m o2 hbt.out,b2⟩
   case measure=>simp [intOf]
  ·have hj0:j=0:=by omega
   subst hj0;obtain rfl:m=n+k:=by omega
   have hneg:¬ (0:Int)≤ -1:=by omega
   have hl2:l'=l++highL k x:=by simpa [highL] using hl
   have HL:=hid hl2;clear hl hl2;go_wp2_with fail;go_ret
   exact ⟨A,c,rfl,by rw [← List.map_append,← HL.out];exact ho,hbw⟩
theorem Zzhg (base:Nat) (A:Option Addr) (n c:Nat) (l:List Byte) (x:Int) (k:Nat) (w:World) (ho:w.ownsRow base 5 1 (.slice A n c) n (l.map bv8)) (hn:n≤1048576) (hb:base≤w.heap.size) (hx: -9223372036854775808≤x∧x≤9223372036854775807) (hk:k≤7):
  Calls Tryz.prog 70 #[.slice A n c,.int .i64 x,.int .i64 k] w fun e w'=>∃ A' c',e= .returned (.slice A' (n+k) c')∧w'.ownsRow base 5 1 (.slice A' (n+k) c') (n+k) ((l++highL k x).map bv8)∧Below base w w':=by
 obtain ⟨i0,hi,hz0,hz1,hz2⟩:=info_parts infoB;go_enter Tryz.func70,Tryz.ntmps70;go_wp2_with fail;go_loopw [0,7] (fun v i wr=>∃ (j:Nat) (A:Option Addr) (m c:Nat) (l':List Byte),j≤k∧m+j=n+k∧i= .int .i64 ((j:Int) - 1)∧v= .slice A m c∧l'++highL j x=l++highL k x∧wr.ownsRow base 5 1 (.slice A m c) m (l'.map bv8)∧Below base w wr) (fun _ i _=>(intOf i+1).toNat)
 case atStart=>exact ⟨k,A,n,c,l,by omega,rfl,rfl,rfl,rfl,ho,Below.refl _ _⟩
 case round=>
  obtain ⟨j,A,m,c,l',hj,hm,rfl,rfl,hl,ho,hbw⟩:=hrel;have hsw:base≤wr.heap.size:=by have:=hbw.size;omega
  by_cases hlt:0 < j
  ·obtain ⟨i,rfl⟩:∃ i,j=i+1:=⟨j - 1,by omega⟩
   have hHL:=hid hl;clear hl;have hji:((i+1:Nat):Int) - 1=(i:Int):=by omega
   rw [hji];have hbt:=hid (Zz0p x i);have hw8:IntKind.i64.wrap (8*(i:Int))=8*(i:Int):=by rw [IntKind.wrap_i64];omega
   go_wp2_with (at_builtin;go_must (refine Zz03 rfl (.tmp 14) (.tmp 20) 33 rfl base 5 i0 (.int .u8 0) 1 1 Tryz.underlying33 hi hz0 hz1 hz2 rfl (by omega) (.slice A m c) m _ rfl (ho.alloc _) _ _ 1 1 _ rfl (Sl.fresh _ _ _ _ 1 rfl) (by simp [Value.oneCell']) (m+1) (by omega) _ rfl (by omega) (by omega) (by simp;omega) ?_);intro A2 c2 w2 o2 g2 _)
   have b2:Below base w w2:=Zz04 (hbw.alloc hsw _) (ho.alloc _) g2 (ZnR _) (by simp;omega);go_roundw
   case rel=>exact ⟨i,A2,m+1,c2,l'++ [hiB x i],by omega,by omega,rfl,rfl,by rw [← hHL.out,List.append_assoc];rfl,Zz8m o2 hbt.out,b2⟩
   case measure=>simp [intOf]
  ·have hj0:j=0:=by omega
   subst hj0;obtain rfl:m=n+k:=by omega
   have hneg:¬ (0:Int)≤ -1:=by omega
   have hl2:l'=l++highL k x:=by simpa [highL] using hl
   have HL:=hid hl2;clear hl hl2;go_wp2_with fail;go_ret
   exact ⟨A,c,rfl,by rw [← List.map_append,← HL.out];exact ho,hbw⟩
theorem Zzgn (B:Nat) (A:Option Addr) (l:List Byte) (n c:Nat) (w:World) (h:Sl w B 1 A n (l.map bv8)) (hn:n≤4) (r:Int) (hr:numL l=r):
  Calls Tryz.prog 81 #[.slice A n c] w fun e w'=>e= .returned (.int .i64 r)∧w'=w:=by
 have hl:l.length=n:=by have:=h.len;simpa using this
 have HL:=hid hl;have HR:=hid hr;clear hl hr;go_enter Tryz.func81,Tryz.ntmps81;go_wp2_with fail;go_loopw [3,8] (fun v i wr=>∃ j:Nat,j≤n∧i= .int .i64 j∧v= .int .i64 (numL (l.take j))∧wr=w) (fun _ i _=>n - (intOf i).toNat)
 case atStart=>exact ⟨0,by omega,rfl,rfl,rfl⟩
 case round=>
  obtain ⟨j,hj,rfl,rfl,rfl⟩:=hrel;by_cases hlt:j < n
  ·obtain ⟨b,o,rfl,_,hc⟩:=h.get (k:=j) hlt (Zz1l l j (by rw [HL.out];exact hlt))
   have hbd:=Zz0w (l.take j);have hp:(256:Int) ^ (l.take j).length≤16777216:=by
    have:(l.take j).length≤3:=by rw [List.length_take];omega
    generalize (l.take j).length=q at this;obtain rfl | rfl | rfl | rfl:q=0∨q=1∨q=2∨q=3:=by omega
    all_goals decide
   have hstep:numL (l.take (j+1))=numL (l.take j)*256+((l.getD j 0).toNat:Int):=by
    rw [List.take_add_one,ZgE (by rw [HL.out];exact hlt),Option.toList_some,Zz3e];simp [ZgD,ZgE (show j < l.length by rw [HL.out];exact hlt)]
   have HS:=hid hstep;clear hstep;generalize l.getD j 0=x at*;obtain ⟨m,hm⟩:∃ m:Nat,numL (l.take j)=(m:Int):=⟨(numL (l.take j)).toNat,by omega⟩;rw [hm] at hbd HS ⊢;have HM:=hid hm;clear hm;have hm2:m < 16777216:=by omega
   have hxb:=x.isLt;have hc':wr.cell? ⟨b,o+j,none⟩=some (.int .u8 (x.toNat:Int)):=hc;clear hc hbd hp;go_wp2_with fail;rw [Zzid m _ hm2 hxb,← HS.out];exact ⟨⟨j+1,by omega,by go_num,rfl,trivial⟩,by simp [intOf];omega⟩
  ·obtain rfl:j=n:=by omega
   have ht:=hid (show numL (l.take j)=r by rw [ZtL (by rw [HL.out];exact ZnR _)];exact HR.out);rw [ht.out];go_wp2_with fail;go_ret
   exact ⟨rfl,rfl⟩
theorem Zz5u (B:Nat) (A:Option Addr) (l:List Byte) (n c:Nat) (w:World) (h:Sl w B 1 A n (l.map bv8)) (hn:n≤4) (r:Int) (hr:numL l=r):
  Calls Tryz.prog 92 #[.slice A n c] w fun e w'=>e= .returned (.int .i64 r)∧w'=w:=by
 have hl:l.length=n:=by have:=h.len;simpa using this
 have HL:=hid hl;have HR:=hid hr;clear hl hr;go_enter Tryz.func92,Tryz.ntmps92;go_wp2_with fail;go_loopw [3,7] (fun v i wr=>∃ j:Nat,j≤n∧i= .int .i64 j∧v= .int .i64 (numL (l.take j))∧wr=w) (fun _ i _=>n - (intOf i).toNat)
 case atStart=>exact ⟨0,by omega,rfl,rfl,rfl⟩
 case round=>
  obtain ⟨j,hj,rfl,rfl,rfl⟩:=hrel;by_cases hlt:j < n
  ·obtain ⟨b,o,rfl,_,hc⟩:=h.get (k:=j) hlt (Zz1l l j (by rw [HL.out];exact hlt))
   have hbd:=Zz0w (l.take j);have hp:(256:Int) ^ (l.take j).length≤16777216:=by
    have:(l.take j).length≤3:=by rw [List.length_take];omega
    generalize (l.take j).length=q at this;obtain rfl | rfl | rfl | rfl:q=0∨q=1∨q=2∨q=3:=by omega
    all_goals decide
   have hstep:numL (l.take (j+1))=numL (l.take j)*256+((l.getD j 0).toNat:Int):=by
    rw [List.take_add_one,ZgE (by rw [HL.out];exact hlt),Option.toList_some,Zz3e];simp [ZgD,ZgE (show j < l.length by rw [HL.out];exact hlt)]
   have HS:=hid hstep;clear hstep;generalize l.getD j 0=x at*;obtain ⟨m,hm⟩:∃ m:Nat,numL (l.take j)=(m:Int):=⟨(numL (l.take j)).toNat,by omega⟩;rw [hm] at hbd HS ⊢;have HM:=hid hm;clear hm;have hm2:m < 16777216:=by omega
   have hxb:=x.isLt;have hc':wr.cell? ⟨b,o+j,none⟩=some (.int .u8 (x.toNat:Int)):=hc;clear hc hbd hp;go_wp2_with fail;rw [Zzid m _ hm2 hxb,← HS.out];exact ⟨⟨j+1,by omega,by go_num,rfl,trivial⟩,by simp [intOf];omega⟩
  ·obtain rfl:j=n:=by omega
   have ht:=hid (show numL (l.take j)=r by rw [ZtL (by rw [HL.out];exact ZnR _)];exact HR.out);rw [ht.out];go_wp2_with fail;go_ret
   exact ⟨rfl,rfl⟩
theorem Zz3s (base:Nat) (A:Option Addr) (n c:Nat) (l:List Byte) (x:Int) (k:Nat) (w:World) (m:Nat) (L:List Byte) (hm:n+k=m) (hL:l++highL k x=L) (ho:w.ownsRow base 5 1 (.slice A n c) n (l.map bv8)) (hn:n≤1048576) (hb:base≤w.heap.size) (hx: -9223372036854775808≤x∧x≤9223372036854775807) (hk:k≤7):
  Calls Tryz.prog 111 #[.slice A n c,.int .i64 x,.int .i64 k] w fun e w'=>∃ A' c',e= .returned (.slice A' m c')∧w'.ownsRow base 5 1 (.slice A' m c') m (L.map bv8)∧Below base w w':=by
 subst hm hL;exact Zzc4 base A n c l x k w ho hn hb hx hk
theorem Zz6k (base:Nat) (A:Option Addr) (n c:Nat) (l:List Byte) (x:Int) (k:Nat) (w:World) (m:Nat) (L:List Byte) (hm:n+k=m) (hL:l++highL k x=L) (ho:w.ownsRow base 5 1 (.slice A n c) n (l.map bv8)) (hn:n≤1048576) (hb:base≤w.heap.size) (hx: -9223372036854775808≤x∧x≤9223372036854775807) (hk:k≤7):
  Calls Tryz.prog 70 #[.slice A n c,.int .i64 x,.int .i64 k] w fun e w'=>∃ A' c',e= .returned (.slice A' m c')∧w'.ownsRow base 5 1 (.slice A' m c') m (L.map bv8)∧Below base w w':=by
 subst hm hL;exact Zzhg base A n c l x k w ho hn hb hx hk
theorem _root_.Wells.Sl.sub {w:World} {B n bx ox:Nat} {l:List Byte} (h:Sl w B 1 (some ⟨bx,ox,none⟩) n (l.map bv8)) (k m:Nat) (hkm:k+m≤n):Sl w B 1 (some ⟨bx,ox+k,none⟩) m (((l.drop k).take m).map bv8):=by
 have hl:l.length=n:=by have:=h.len;simpa using this
 refine ⟨by simp;omega,fun hm=> ?_⟩;obtain ⟨b,o,e,hb,hc⟩:=h.at_ (by omega);injection e with e;injection e with e1 e2;subst e1 e2;refine ⟨bx,ox+k,rfl,hb,fun j u hu=> ?_⟩;have hj:j < m:=by
  have:=(List.getElem?_eq_some_iff.1 hu).1
  simp at this
  omega
 have:=hc (k+j) u (by rw [← hu];simp [List.getElem?_map,List.getElem?_take,hj,List.getElem?_drop])
 rw [← Nat.add_assoc] at this;exact this
theorem Zz48 {B:Nat} {l:List Byte} {n bx ox:Nat} {w:World} (h:Sl w B 1 (some ⟨bx,ox,none⟩) n (l.map bv8)) (k m c:Nat) (hkm:k+m≤n) (hm:m≤4) (r:Int) (hr:numL ((l.drop k).take m)=r):
  Calls Tryz.prog 81 #[.slice (some ⟨bx,ox+k,none⟩) m c] w fun e w'=>e= .returned (.int .i64 r)∧w'=w:=
 Zzgn B _ _ m c w (h.sub k m hkm) hm r hr
theorem Zz3m {B:Nat} {l:List Byte} {n bx ox:Nat} {w:World} (h:Sl w B 1 (some ⟨bx,ox,none⟩) n (l.map bv8)) (k m c:Nat) (hkm:k+m≤n) (hm:m≤4) (r:Int) (hr:numL ((l.drop k).take m)=r):
  Calls Tryz.prog 92 #[.slice (some ⟨bx,ox+k,none⟩) m c] w fun e w'=>e= .returned (.int .i64 r)∧w'=w:=
 Zz5u B _ _ m c w (h.sub k m hkm) hm r hr
theorem Zzei (x:Int) (r:Bool) (w:World) (hr:decide (0≤x∧x≤65535)=r):Calls Tryz.prog 110 #[.int .i64 x] w fun e w'=>e= .returned (.bool r)∧w'=w:=by
 have HR:=hid hr;clear hr;go_enter Tryz.func110,Tryz.ntmps110;go_wp2_with fail;all_goals (go_ret;exact ⟨Zz0a (by rw [← HR.out];first | (refine decide_eq_decide.2 ?_;omega) | (refine (decide_eq_false ?_).symm;omega)),rfl⟩)
theorem Zzfr (a b:Int):(a==b)=decide (a=b):=by
 by_cases h:a=b
 ·subst h;simp
 ·simp [h]
theorem Zz4a (r:Rec) (A:Option Addr) (n c:Nat) (b:Bool) (w:World) (hn:r.D.length=n) (hb:r.may=b):Calls Tryz.prog 84 #[r.val (.slice A n c)] w fun e w'=>e= .returned (.bool b)∧Below w.heap.size w w':=by
 obtain ⟨O,B,I,⟨K,H,S⟩,s,D⟩:=r;unfold Rec.val;have HB:=hid hb;unfold Rec.may at HB;dsimp only at*;have HN:=hid hn;have hbi:=s.isLt;clear hn hb;go_enter Tryz.func84,Tryz.ntmps84;go_wp2_with fail;all_goals try (go_ret;exact ⟨Zz0a (by rw [← HB.out];refine (decide_eq_false ?_).symm;omega),(Below.refl _ _).alloc (ZnR _) _⟩)
 obtain ⟨pm,hpm⟩:∃ b,Par.may ⟨K,H,S⟩=b:=⟨_,rfl⟩;have HPM:=hid hpm;have hr0:=Row.new w 73 #[.int .i64 O,.int .i64 B,.int .i64 I,.int .i64 K,.int .i64 H,.int .i64 S,.int .u32 (s.toNat:Int),.slice A n c];have hb0:Below w.heap.size w (w.alloc (.cells #[.int .i64 O,.int .i64 B,.int .i64 I,.int .i64 K,.int .i64 H,.int .i64 S,.int .u32 (s.toNat:Int),.slice A n c] 73)):=(Below.refl _ _).alloc (ZnR _) _;have hlt:=hr0.lt;generalize w.alloc (.cells #[.int .i64 O,.int .i64 B,.int .i64 I,.int .i64 K,.int .i64 H,.int .i64 S,.int .u32 (s.toNat:Int),.slice A n c] 73)=w1 at*;refine (Zz1m ⟨K,H,S⟩ pm w1 hpm).mono ?_;rintro e w2 ⟨rfl,hb2⟩;have hr2:=hr0.below hb2 hlt;have hc5:=hr2.cell 5;have hc7:=hr2.cell 7
 have bt:=hb0.trans (hb2.mono (by omega));simp only [ZgS,ZgZ] at hc5 hc7;clear hpm hr0 hr2 hb2 hb0;cases pm
 ·go_wp2_with fail
  go_ret
  exact ⟨Zz0a (by rw [← HB.out];refine (decide_eq_false fun h=> ?_).symm;have:=HPM.out;simp [this] at h),bt⟩
 ·go_wp2_with fail
  go_ret
  exact ⟨Zz0a (by rw [← HB.out,HPM.out,HN.out,Zzfr];refine decide_eq_decide.2 ⟨fun h=>⟨by omega,by omega,by omega,by omega,by omega,by omega,rfl,h⟩,fun h=>h.2.2.2.2.2.2.2⟩),bt⟩
theorem Zz23 (r:Rec) (A:Option Addr) (n c:Nat) (b:Bool) (w:World) (hn:r.D.length=n) (hb:r.may=b):Calls Tryz.prog 71 #[r.val (.slice A n c)] w fun e w'=>e= .returned (.bool b)∧Below w.heap.size w w':=by
 obtain ⟨O,B,I,⟨K,H,S⟩,s,D⟩:=r;unfold Rec.val;have HB:=hid hb;unfold Rec.may at HB;dsimp only at*;have HN:=hid hn;have hbi:=s.isLt;clear hn hb;go_enter Tryz.func71,Tryz.ntmps71;go_wp2_with fail;all_goals try (go_ret;exact ⟨Zz0a (by rw [← HB.out];refine (decide_eq_false ?_).symm;omega),(Below.refl _ _).alloc (ZnR _) _⟩)
 refine (Zzei I _ _ rfl).mono ?_;rintro e w1 ⟨rfl,rfl⟩;by_cases hI:0≤I∧I≤65535
 rotate_left
 ·rw [decide_eq_false hI]
  go_wp2_with fail;go_ret
  exact ⟨Zz0a (by rw [← HB.out];refine (decide_eq_false ?_).symm;omega),(Below.refl _ _).alloc (ZnR _) _⟩
 rw [decide_eq_true hI];go_wp2_with fail;obtain ⟨pm,hpm⟩:∃ b,Par.may ⟨K,H,S⟩=b:=⟨_,rfl⟩;have HPM:=hid hpm;have hr0:=Row.new w 73 #[.int .i64 O,.int .i64 B,.int .i64 I,.int .i64 K,.int .i64 H,.int .i64 S,.int .u32 (s.toNat:Int),.slice A n c];have hb0:Below w.heap.size w (w.alloc (.cells #[.int .i64 O,.int .i64 B,.int .i64 I,.int .i64 K,.int .i64 H,.int .i64 S,.int .u32 (s.toNat:Int),.slice A n c] 73)):=(Below.refl _ _).alloc (ZnR _) _;have hlt:=hr0.lt;generalize w.alloc (.cells #[.int .i64 O,.int .i64 B,.int .i64 I,.int .i64 K,.int .i64 H,.int .i64 S,.int .u32 (s.toNat:Int),.slice A n c] 73)=w1 at*;refine (Zz1n ⟨K,H,S⟩ pm w1 hpm).mono ?_;rintro e w2 ⟨rfl,hb2⟩;have hr2:=hr0.below hb2 hlt
 have hc5:=hr2.cell 5;have hc7:=hr2.cell 7;have bt:=hb0.trans (hb2.mono (by omega));simp only [ZgS,ZgZ] at hc5 hc7;clear hpm hr0 hr2 hb2 hb0;cases pm
 ·go_wp2_with fail
  go_ret
  exact ⟨Zz0a (by rw [← HB.out];refine (decide_eq_false fun h=> ?_).symm;have:=HPM.out;simp [this] at h),bt⟩
 ·go_wp2_with fail
  go_ret
  exact ⟨Zz0a (by rw [← HB.out,HPM.out,HN.out,Zzfr];refine decide_eq_decide.2 ⟨fun h=>⟨by omega,by omega,by omega,by omega,by omega,by omega,rfl,h⟩,fun h=>h.2.2.2.2.2.2.2⟩),bt⟩
end Go.Proofs.YtnknjeipfjdjoaaGreatDoor
namespace Wells
open Go Go.RowKit
structure Ent where
 name:List Byte
 obj:Int
 len:Int
 tries:List Int
deriving DecidableEq
instance:Inhabited Ent:=⟨⟨[],0,0, []⟩⟩
structure Mani where
 seq:Int
 next:Int
 P:Par
 extra:Int
 drives:List Int
 objs:List Ent
deriving DecidableEq
def strB (l:List Byte):ByteArray:=⟨(l.map UInt8.ofBitVec).toArray⟩
def bytesB (s:ByteArray):List Byte:=s.data.toList.map UInt8.toBitVec
theorem Zz9q (s:ByteArray):strB (bytesB s)=s:=by
 unfold strB bytesB;rw [List.map_map];have:(UInt8.ofBitVec ∘ UInt8.toBitVec)=id:=by funext x;rfl
 rw [this,List.map_id]
theorem Zz4m (l:List Byte):bytesB (strB l)=l:=by
 unfold strB bytesB;simp only [List.map_map];have:(UInt8.toBitVec ∘ UInt8.ofBitVec)=id:=by funext x;rfl
 rw [this,List.map_id]
theorem Zzbf {a b:List Byte} (h:strB a=strB b):a=b:=by rw [← Zz4m a,h,Zz4m]
theorem Zz1t (l:List Byte):(strB l).size=l.length:=by
 unfold strB;show (l.map UInt8.ofBitVec).toArray.size=_;simp
theorem Zzc1 (l:List Byte) (k:Nat) (h:k < (strB l).size):(((strB l)[k]'h).toNat:Int)=((l.getD k 0).toNat:Int):=by
 have hk:k < l.length:=by rw [Zz1t] at h;exact h
 have:(strB l)[k]'h=UInt8.ofBitVec (l.getD k 0):=by
  rw [ZgD,ZgE hk];show (l.map UInt8.ofBitVec).toArray[k]'(by simpa using hk)=_;simp
 rw [this];rfl
def Ent.cells (e:Ent) (tv:Value):List Value:= [.string (strB e.name),iv e.obj,iv e.len,tv]
def Ent.val (e:Ent) (tv:Value):Value:= .agg #[.string (strB e.name),.int .i64 e.obj,.int .i64 e.len,tv]
def Mani.val (m:Mani) (dv ov:Value):Value:= .agg #[.int .i64 m.seq,.int .i64 m.next,.int .i64 m.P.K,.int .i64 m.P.H,.int .i64 m.P.S,.int .i64 m.extra,dv,ov]
def Mani.cells (m:Mani) (dv ov:Value):List Value:= [.int .i64 m.seq,.int .i64 m.next,.int .i64 m.P.K,.int .i64 m.P.H,.int .i64 m.P.S,.int .i64 m.extra,dv,ov]
def nameC (c:Byte):Bool:=decide ((97≤c.toNat∧c.toNat≤122)∨(48≤c.toNat∧c.toNat≤57)∨c.toNat=45)
def nameOk (s:List Byte):Bool:=s.all nameC && decide (1≤s.length∧s.length≤12)
def lessS (a b:List Byte):Bool:=Op.bytesLess (strB a).toList (strB b).toList
def riseStep (l:List Int) (most:Int) (i:Nat):Bool:=decide (0≤l.getD i 0∧l.getD i 0≤most) && (decide (i=0) || decide (l.getD (i - 1) 0 < l.getD i 0))
def riseB (l:List Int) (most:Int):Bool:=(List.range l.length).all (riseStep l most)
def triesOk (l:List Int):Bool:=l.all fun z=>decide (0≤z∧z≤15)
def entB (m:Mani) (x:Ent):Bool:=
 nameOk x.name && (decide (0≤x.obj∧x.obj≤m.next - 1) && (decide (0≤x.len∧x.len≤m.P.K*m.P.S*8) && (triesOk x.tries && decide ((x.tries.length:Int)=countP m.P x.len))))
def entAt (m:Mani) (i:Nat):Ent:=m.objs.getD i default
def objStep (m:Mani) (i:Nat):Bool:=
 entB m (entAt m i) && ((decide (i=0) || lessS (entAt m (i - 1)).name (entAt m i).name) && (m.objs.take i).all fun y=> !decide (y.obj=(entAt m i).obj))
def preB (m:Mani):Bool:=decide (1≤m.seq∧m.seq≤2147483647) && (decide (0≤m.next∧m.next≤16777216) && (m.P.may && (decide (0≤m.extra∧m.extra≤16))))
def Mani.may (m:Mani):Bool:=preB m && (riseB m.drives 63 && (decide (m.objs.length≤12) && (List.range m.objs.length).all (objStep m)))
theorem Zz0l {f:Nat→Bool} {n k:Nat} (hk:k < n) (h:f k=false):(List.range n).all f=false:=by
 rw [List.all_eq_false];exact ⟨k,List.mem_range.2 hk,by simp [h]⟩
theorem Zz0y {f:Nat→Bool} {n:Nat} (h:∀ k,k < n→f k=true):(List.range n).all f=true:=by
 rw [List.all_eq_true];intro k hk;exact h k (List.mem_range.1 hk)
theorem Zz1c {f:Nat→Bool} {n k:Nat} (h:(List.range n).all f=true) (hk:k < n):f k=true:=by
 rw [List.all_eq_true] at h;exact h k (List.mem_range.2 hk)
def i64 (z:Int):Prop:= -9223372036854775808≤z∧z≤9223372036854775807
structure M64 (m:Mani):Prop where
 seq:i64 m.seq
 next:i64 m.next
 K:i64 m.P.K
 H:i64 m.P.H
 S:i64 m.P.S
 extra:i64 m.extra
 drives:∀ z∈m.drives,i64 z
 objs:∀ e∈m.objs,i64 e.obj∧i64 e.len∧∀ z∈e.tries,i64 z
def entsC:List Ent→List Value→List Value
 | e::es,t::ts=>e.cells t++entsC es ts
 | _,_=> []
theorem Zz8g:∀ (es:List Ent) (ts:List Value),es.length=ts.length→(entsC es ts).length=es.length*4
 | [], [],_=>rfl
 | e::es,t::ts,h=>by
  simp only [entsC,List.length_append,Zz8g es ts (by simpa using h),List.length_cons];show 4+_=_;omega
 | [],_::_,h=>by simp at h
 | _::_, [],h=>by simp at h
theorem Zz50:∀ (es:List Ent) (ts:List Value) (i:Nat),es.length=ts.length→i < es.length→∀ j,j < 4→(entsC es ts)[i*4+j]? =((es.getD i default).cells (ts.getD i undef))[j]?
 | e::es,t::ts,0,_,_,j,hj=>by
  simp only [entsC,Nat.zero_mul,Nat.zero_add];rw [List.getElem?_append_left (by show j < 4;exact hj)];rfl
 | e::es,t::ts,i+1,h,hi,j,hj=>by
  simp only [entsC];rw [List.getElem?_append_right (by show 4≤_;omega)];show (entsC es ts)[(i+1)*4+j - 4]? =_;rw [show (i+1)*4+j - 4=i*4+j by omega,Zz50 es ts i (by simpa using h) (by simpa using hi) j hj];rfl
 | [],_,_,_,hi,_,_=>by simp at hi
 | _::_, [],_,h,_,_,_=>by simp at h
theorem Zz6s (e:Ent) (t:Value):∀ (es:List Ent) (ts:List Value),es.length=ts.length→entsC (es++ [e]) (ts++ [t])=entsC es ts++e.cells t
 | [], [],_=>by simp [entsC]
 | a::es,b::ts,h=>by simp only [List.cons_append,entsC,Zz6s e t es ts (by simpa using h),List.append_assoc]
 | [],_::_,h=>by simp at h
 | _::_, [],h=>by simp at h
theorem Zz6c:∀ (es:List Ent) (ts:List Value) (k:Nat),es.length=ts.length→(entsC es ts).take (k*4)=entsC (es.take k) (ts.take k)
 | _,_,0,_=>by simp [entsC]
 | [], [],k+1,_=>by simp [entsC]
 | a::es,b::ts,k+1,h=>by
  simp only [List.take_succ_cons,entsC];rw [List.take_append,ZtL (by show 4≤_;omega)];show _++(entsC es ts).take ((k+1)*4 - 4)=_;rw [show (k+1)*4 - 4=k*4 by omega,Zz6c es ts k (by simpa using h)]
 | [],_::_,_,h=>by simp at h
 | _::_, [],_,h=>by simp at h
structure REs (w:World) (B:Nat) (A:Option Addr) (n:Nat) (ts:List Value) (es:List Ent):Prop where
 sl:Sl w B 4 A n (entsC es ts)
 len:es.length=n
 tlen:ts.length=n
 at_:∀ i,i < n→∃ A' c,ts.getD i undef= .slice A' (es.getD i default).tries.length c∧(es.getD i default).tries.length≤c∧c≤9223372036854775807∧Sl w B 1 A' (es.getD i default).tries.length ((es.getD i default).tries.map iv)
section
variable {w w':World} {B B' n:Nat} {A:Option Addr} {ts:List Value} {es:List Ent}
theorem REs.below (h:REs w B A n ts es) (hb:Below B w w'):REs w' B A n ts es:=
 ⟨h.sl.below hb,h.len,h.tlen,fun i hi=>by
  obtain ⟨A',c,e,h1,h2,h3⟩:=h.at_ i hi;exact ⟨A',c,e,h1,h2,h3.below hb⟩⟩
theorem REs.mono (h:REs w B A n ts es) (hb:B≤B'):REs w B' A n ts es:=
 ⟨h.sl.mono hb,h.len,h.tlen,fun i hi=>by
  obtain ⟨A',c,e,h1,h2,h3⟩:=h.at_ i hi;exact ⟨A',c,e,h1,h2,h3.mono hb⟩⟩
theorem REs.take (h:REs w B A n ts es) {k:Nat} (hk:k≤n):REs w B A k (ts.take k) (es.take k):=by
 refine ⟨?_,by rw [List.length_take,h.len];omega,by rw [List.length_take,h.tlen];omega,fun i hi=> ?_⟩
 ·have:=h.sl.take hk
  rwa [Zz6c es ts k (by rw [h.len,h.tlen])] at this
 ·have:=h.at_ i (by omega)
  rw [ZgD,ZgD,List.getElem?_take_of_lt hi,List.getElem?_take_of_lt hi,← ZgD,← ZgD];exact this
theorem REs.get (h:REs w B A n ts es) {k:Nat} (hk:k < n):
  ∃ b o A' c,A=some ⟨b,o,none⟩∧b < B∧w.cell? ⟨b,o+k*4,none⟩=some (.string (strB (es.getD k default).name))∧w.cell? ⟨b,o+k*4+1,none⟩=some (.int .i64 (es.getD k default).obj)∧w.cell? ⟨b,o+k*4+2,none⟩=some (.int .i64 (es.getD k default).len)∧
   w.cell? ⟨b,o+k*4+3,none⟩=some (.slice A' (es.getD k default).tries.length c)∧(es.getD k default).tries.length≤c∧c≤9223372036854775807∧Sl w B 1 A' (es.getD k default).tries.length ((es.getD k default).tries.map iv):=by
 obtain ⟨A',c,e,h1,h2,h3⟩:=h.at_ k hk;obtain ⟨b,o,hA,hb,hc⟩:=h.sl.at_ (by omega);have ht:=Zz50 es ts k (by rw [h.len,h.tlen]) (by rw [h.len];exact hk);refine ⟨b,o,A',c,hA,hb,?_,?_,?_,?_,h1,h2,h3⟩
 ·exact hc _ _ (ht 0 (by omega))
 ·have:=hc _ _ (ht 1 (by omega))
  exact this
 ·have:=hc _ _ (ht 2 (by omega))
  exact this
 ·have:=hc _ _ (ht 3 (by omega))
  rw [show o+k*4+3=o+(k*4+3) by omega,this,e]
end
structure RM (w:World) (B:Nat) (m:Mani) (Ad:Option Addr) (nd cd:Nat) (Ao:Option Addr) (no co:Nat) (ts:List Value):Prop where
 d:Sl w B 1 Ad nd (m.drives.map iv)
 dl:m.drives.length=nd
 dc:nd≤cd∧cd≤9223372036854775807
 o:REs w B Ao no ts m.objs
 oc:no≤co∧co≤9223372036854775807
theorem RM.below {w w':World} {B:Nat} {m:Mani} {Ad Ao:Option Addr} {nd cd no co:Nat} {ts:List Value} (h:RM w B m Ad nd cd Ao no co ts) (hb:Below B w w'):RM w' B m Ad nd cd Ao no co ts:=⟨h.d.below hb,h.dl,h.dc,h.o.below hb,h.oc⟩
theorem RM.mono {w:World} {B B':Nat} {m:Mani} {Ad Ao:Option Addr} {nd cd no co:Nat} {ts:List Value} (h:RM w B m Ad nd cd Ao no co ts) (hb:B≤B'):RM w B' m Ad nd cd Ao no co ts:=⟨h.d.mono hb,h.dl,h.dc,h.o.mono hb,h.oc⟩
def MCells (w:World) (g:Nat) (m:Mani) (dv ov:Value):Prop:=
 w.cell? ⟨g,0,none⟩=some (.int .i64 m.seq)∧w.cell? ⟨g,1,none⟩=some (.int .i64 m.next)∧w.cell? ⟨g,2,none⟩=some (.int .i64 m.P.K)∧w.cell? ⟨g,3,none⟩=some (.int .i64 m.P.H)∧w.cell? ⟨g,4,none⟩=some (.int .i64 m.P.S)∧w.cell? ⟨g,5,none⟩=some (.int .i64 m.extra)∧w.cell? ⟨g,6,none⟩=some dv∧w.cell? ⟨g,7,none⟩=some ov
theorem MCells.keep {w w':World} {g B:Nat} {m:Mani} {dv ov:Value} (h:MCells w g m dv ov) (hb:Below B w w') (hg:g < B):MCells w' g m dv ov:=by
 obtain ⟨h0,h1,h2,h3,h4,h5,h6,h7⟩:=h;have k:∀ i,w'.cell? ⟨g,i,none⟩=w.cell? ⟨g,i,none⟩:=fun i=>hb.cell (p:=⟨g,i,none⟩) hg
 exact ⟨(k 0).trans h0,(k 1).trans h1,(k 2).trans h2,(k 3).trans h3,(k 4).trans h4,(k 5).trans h5,(k 6).trans h6,(k 7).trans h7⟩
theorem MCells.of_row {w:World} {g:Nat} {t:TypeId} {m:Mani} {dv ov:Value} (h:Row w g t (m.cells dv ov)):MCells w g m dv ov:=
 ⟨h.cell 0,h.cell 1,h.cell 2,h.cell 3,h.cell 4,h.cell 5,h.cell 6,h.cell 7⟩
theorem MCells.lt {w:World} {g:Nat} {m:Mani} {dv ov:Value} (h:MCells w g m dv ov):g < w.heap.size:=World.block_lt_of_cell? w _ h.1
abbrev maniObj (t:TypeId) (m:Mani) (dv ov:Value):Obj:= .cells #[.int .i64 m.seq,.int .i64 m.next,.int .i64 m.P.K,.int .i64 m.P.H,.int .i64 m.P.S,.int .i64 m.extra,dv,ov] t
theorem MCells.new (w:World) (t:TypeId) (m:Mani) (dv ov:Value):MCells (w.alloc (maniObj t m dv ov)) w.heap.size m dv ov:= .of_row (Row.new w t _)
structure Appd (t:TypeId) (base:Nat) (w w':World) (v v':Value) (n:Nat) (xs:List Value):Prop where
 own:w'.ownsRow base t 1 v' n xs
 grow:w.grownBy w' v.ownBlock
 wh:v'.ownBlock=v.ownBlock∨∃ g,v'.ownBlock=some g∧w.heap.size≤g
theorem Zz0c {w w1 w2:World} {r r1:Option Nat} (h:w.grownBy w1 r) (h1:w1.grownBy w2 r1) (hr:r1=r∨∃ g,r1=some g∧w.heap.size≤g):w.grownBy w2 r:=
 ⟨h1.os.trans h.os,h1.tape.trans h.tape,h1.output.trans h.output,ZnT h.size h1.size,fun k hk hne=>by
  refine (h1.block k (Nat.lt_of_lt_of_le hk h.size) ?_).trans (h.block k hk hne);rcases hr with rfl | ⟨g,rfl,hg⟩
  ·exact hne
  ·intro e;injection e with e;omega⟩
theorem Zza2 {w w1:World} {r:Option Nat} (h:w.grownBy w1 r) (o:Obj):w.grownBy (w1.alloc o) r:=
 ⟨h.os,h.tape,h.output,by have:=h.size;simp;omega,fun k hk hne=>(Below.heap_alloc w1 o k (Nat.lt_of_lt_of_le hk h.size)).trans (h.block k hk hne)⟩
theorem Zz0o {w w1 w2:World} {r:Option Nat} (h:w.grownBy w1 r) (hb:Below w1.heap.size w1 w2):w.grownBy w2 r:=
 ⟨hb.os.trans h.os,hb.tape.trans h.tape,hb.output.trans h.output,ZnT h.size hb.size,fun k hk hne=>(hb.block k (Nat.lt_of_lt_of_le hk h.size)).trans (h.block k hk hne)⟩
theorem Appd.refl {t:TypeId} {base n:Nat} {w:World} {v:Value} {xs:List Value} (h:w.ownsRow base t 1 v n xs):Appd t base w w v v n xs:=⟨h,⟨rfl,rfl,rfl,ZnR _,fun _ _ _=>rfl⟩,.inl rfl⟩
theorem Appd.trans {t:TypeId} {base n n1:Nat} {w w1 w2:World} {v v1 v2:Value} {xs xs1:List Value} (h:Appd t base w w1 v v1 n xs) (h1:Appd t base w1 w2 v1 v2 n1 xs1):Appd t base w w2 v v2 n1 xs1:=by
 refine ⟨h1.own,Zz0c h.grow h1.grow h.wh,?_⟩;rcases h1.wh with e | ⟨g,e,hg⟩
 ·rw [e];exact h.wh
 ·exact .inr ⟨g,e,ZnT h.grow.size hg⟩
theorem Appd.step {t:TypeId} {base n n1:Nat} {w w1 w2:World} {v v1 v2:Value} {xs xs1:List Value} (h:Appd t base w w1 v v1 n xs) (o:Obj) (ho:w2.ownsRow base t 1 v2 n1 xs1) (hg:(w1.alloc o).grownBy w2 v1.ownBlock)
  (hw:v2.ownBlock=v1.ownBlock∨v2.ownBlock=some (w1.alloc o).heap.size):Appd t base w w2 v v2 n1 xs1:=by
 have hs:=h.grow.size;refine ⟨ho,Zz0c (Zza2 h.grow o) hg h.wh,?_⟩;rcases hw with e | e
 ·rw [e];exact h.wh
 ·exact .inr ⟨_,e,by simp;omega⟩
theorem Appd.step0 {t:TypeId} {base n n1:Nat} {w w1 w2:World} {v v1 v2:Value} {xs xs1:List Value} (h:Appd t base w w1 v v1 n xs) (ho:w2.ownsRow base t 1 v2 n1 xs1) (hg:w1.grownBy w2 v1.ownBlock)
  (hw:v2.ownBlock=v1.ownBlock∨v2.ownBlock=some w1.heap.size):Appd t base w w2 v v2 n1 xs1:=by
 have hs:=h.grow.size;refine ⟨ho,Zz0c h.grow hg h.wh,?_⟩;rcases hw with e | e
 ·rw [e];exact h.wh
 ·exact .inr ⟨_,e,by omega⟩
theorem Appd.more {t:TypeId} {base n:Nat} {w w1 w2:World} {v v1:Value} {xs:List Value} (h:Appd t base w w1 v v1 n xs) (hb:Below w1.heap.size w1 w2):Appd t base w w2 v v1 n xs:=
 ⟨h.own.kept (show w1.grownBy w2 none from ⟨hb.os,hb.tape,hb.output,hb.size,fun k hk _=>hb.block k hk⟩) (by cases v1.ownBlock <;> simp),Zz0o h.grow hb,h.wh⟩
theorem Appd.below {t:TypeId} {base n:Nat} {w w1:World} {v v1:Value} {xs:List Value} (h:Appd t base w w1 v v1 n xs) (hv:∀ k,v.ownBlock=some k→base≤k) (hb:base≤w.heap.size):Below base w w1:=
 (Below.refl base w).grown h.grow hb hv
theorem Row.appd {t t':TypeId} {base n g:Nat} {w w1:World} {v v1:Value} {xs cs ys:List Value} {m:Nat} (h:Row w g t' cs) (hv:w.ownsRow base t 1 v m ys) (ha:Appd t base w w1 v v1 n xs) (hne:t≠t'):Row w1 g t' cs:=by
 refine h.grown ha.grow ?_;rcases hv.2 with ⟨rfl,_⟩ | ⟨g',cap,cur,rfl,_,hh,_⟩
 ·intro e;cases e
 ·intro e
  injection e with e;subst e;unfold Row at h;rw [h] at hh;injection hh with hh;injection hh with _ e2 _;exact hne e2.symm
theorem Row.appd1 {t t':TypeId} {base g n:Nat} {w w1:World} {v:Value} {cs ys:List Value} (h:Row w g t' cs) (hv:w.ownsRow base t 1 v n ys) (hg:w.grownBy w1 v.ownBlock) (hne:t≠t'):Row w1 g t' cs:=by
 refine h.grown hg ?_;rcases hv.2 with ⟨rfl,_⟩ | ⟨g',cap,cur,rfl,_,hh,_⟩
 ·intro e;cases e
 ·intro e
  injection e with e;subst e;unfold Row at h;rw [h] at hh;injection hh with hh;injection hh with _ e2 _;exact hne e2.symm
theorem _root_.Go.World.ownsRow.drew_ {base size n:Nat} {w:World} {e:TypeId} {v:Value} {xs:List Value} (h:w.ownsRow base e size v n xs):w.drew.ownsRow base e size v n xs:=h
theorem Appd.drew_ {t:TypeId} {base n:Nat} {w w1:World} {v v1:Value} {xs:List Value} (h:Appd t base w w1 v v1 n xs):Appd t base w w1.drew v v1 n xs:=⟨h.own,⟨h.grow.os,h.grow.tape,h.grow.output,h.grow.size,h.grow.block⟩,h.wh⟩
end Wells
namespace Go.Proofs.YtnknjeipfjdjoaaGreatDoor
open Go.RowKit Wells
theorem Zz8h {w:World} {base n:Nat} {t:TypeId} {v:Value} {l:List Byte} {E:Int} (h:w.ownsRow base t 1 v n (l.map bv8++ [.int .u8 E])) {b:Byte} (hb:(b.toNat:Int)=E):w.ownsRow base t 1 v n ((l++ [b]).map bv8):=by
 rw [List.map_append,List.map_cons,List.map_nil,bv8,hb];exact h
theorem Zz26 (base:Nat) (A:Option Addr) (n c:Nat) (l:List Byte) (x:Int) (k:Nat) (w:World) (ho:w.ownsRow base 5 1 (.slice A n c) n (l.map bv8)) (hn:n≤1048576) (hb:base≤w.heap.size) (hx: -9223372036854775808≤x∧x≤9223372036854775807) (hk:k≤7):
  Calls Tryz.prog 108 #[.slice A n c,.int .i64 x,.int .i64 k] w fun e w'=>∃ A' c',e= .returned (.slice A' (n+k) c')∧Appd 5 base w w' (.slice A n c) (.slice A' (n+k) c') (n+k) ((l++highL k x).map bv8):=by
 obtain ⟨i0,hi,hz0,hz1,hz2⟩:=info_parts infoB;go_enter Tryz.func108,Tryz.ntmps108;go_wp2_with fail;go_loopw [0,7] (fun v i wr=>∃ (j:Nat) (A1:Option Addr) (m c1:Nat) (l':List Byte),j≤k∧m+j=n+k∧i= .int .i64 ((j:Int) - 1)∧v= .slice A1 m c1∧l'++highL j x=l++highL k x∧Appd 5 base w wr (.slice A n c) (.slice A1 m c1) m (l'.map bv8)) (fun _ i _=>(intOf i+1).toNat)
 case atStart=>exact ⟨k,A,n,c,l,by omega,rfl,rfl,rfl,rfl,.refl ho⟩
 case round=>
  obtain ⟨j,A1,m,c1,l',hj,hm,rfl,rfl,hl,ha⟩:=hrel;have hsw:base≤wr.heap.size:=by have:=ha.grow.size;omega
  by_cases hlt:0 < j
  ·obtain ⟨i,rfl⟩:∃ i,j=i+1:=⟨j - 1,by omega⟩
   have hHL:=hid hl;clear hl;have hji:((i+1:Nat):Int) - 1=(i:Int):=by omega
   rw [hji];have hbt:=hid (Zz0p x i);have hw8:IntKind.i64.wrap (8*(i:Int))=8*(i:Int):=by rw [IntKind.wrap_i64];omega
   have HA:=hid ha;have ho1:=ha.own;clear ha;go_wp2_with (at_builtin;go_must (refine Zz03 rfl (.tmp 14) (.tmp 20) 33 rfl base 5 i0 (.int .u8 0) 1 1 Tryz.underlying33 hi hz0 hz1 hz2 rfl (by omega) (.slice A1 m c1) m _ rfl (ho1.alloc _) _ _ 1 1 _ rfl (Sl.fresh _ _ _ _ 1 rfl) (by simp [Value.oneCell']) (m+1) (by omega) _ rfl (by omega) (by omega) (by simp;omega) ?_);intro A2 c2 w2 o2 g2 wh2)
   have ha2:=HA.out.step _ (Zz8h o2 hbt.out) g2 wh2;go_roundw
   case rel=>exact ⟨i,A2,m+1,c2,l'++ [hiB x i],by omega,by omega,rfl,rfl,by rw [← hHL.out,List.append_assoc];rfl,ha2⟩
   case measure=>simp [intOf]
  ·have hj0:j=0:=by omega
   subst hj0;obtain rfl:m=n+k:=by omega
   have hneg:¬ (0:Int)≤ -1:=by omega
   have hl2:l'=l++highL k x:=by simpa [highL] using hl
   have HL:=hid hl2;clear hl hl2;go_wp2_with fail;go_ret
   exact ⟨A1,c1,rfl,by rw [← List.map_append,← HL.out];exact ha⟩
theorem Zz3p (base:Nat) (A:Option Addr) (n c:Nat) (l:List Byte) (x:Int) (k:Nat) (w:World) (ho:w.ownsRow base 5 1 (.slice A n c) n (l.map bv8)) (hn:n≤1048576) (hb:base≤w.heap.size) (hx: -9223372036854775808≤x∧x≤9223372036854775807) (hk:k≤7):
  Calls Tryz.prog 70 #[.slice A n c,.int .i64 x,.int .i64 k] w fun e w'=>∃ A' c',e= .returned (.slice A' (n+k) c')∧Appd 5 base w w' (.slice A n c) (.slice A' (n+k) c') (n+k) ((l++highL k x).map bv8):=by
 obtain ⟨i0,hi,hz0,hz1,hz2⟩:=info_parts infoB;go_enter Tryz.func70,Tryz.ntmps70;go_wp2_with fail;go_loopw [0,7] (fun v i wr=>∃ (j:Nat) (A1:Option Addr) (m c1:Nat) (l':List Byte),j≤k∧m+j=n+k∧i= .int .i64 ((j:Int) - 1)∧v= .slice A1 m c1∧l'++highL j x=l++highL k x∧Appd 5 base w wr (.slice A n c) (.slice A1 m c1) m (l'.map bv8)) (fun _ i _=>(intOf i+1).toNat)
 case atStart=>exact ⟨k,A,n,c,l,by omega,rfl,rfl,rfl,rfl,.refl ho⟩
 case round=>
  obtain ⟨j,A1,m,c1,l',hj,hm,rfl,rfl,hl,ha⟩:=hrel;have hsw:base≤wr.heap.size:=by have:=ha.grow.size;omega
  by_cases hlt:0 < j
  ·obtain ⟨i,rfl⟩:∃ i,j=i+1:=⟨j - 1,by omega⟩
   have hHL:=hid hl;clear hl;have hji:((i+1:Nat):Int) - 1=(i:Int):=by omega
   rw [hji];have hbt:=hid (Zz0p x i);have hw8:IntKind.i64.wrap (8*(i:Int))=8*(i:Int):=by rw [IntKind.wrap_i64];omega
   have HA:=hid ha;have ho1:=ha.own;clear ha;go_wp2_with (at_builtin;go_must (refine Zz03 rfl (.tmp 14) (.tmp 20) 33 rfl base 5 i0 (.int .u8 0) 1 1 Tryz.underlying33 hi hz0 hz1 hz2 rfl (by omega) (.slice A1 m c1) m _ rfl (ho1.alloc _) _ _ 1 1 _ rfl (Sl.fresh _ _ _ _ 1 rfl) (by simp [Value.oneCell']) (m+1) (by omega) _ rfl (by omega) (by omega) (by simp;omega) ?_);intro A2 c2 w2 o2 g2 wh2)
   have ha2:=HA.out.step _ (Zz8h o2 hbt.out) g2 wh2;go_roundw
   case rel=>exact ⟨i,A2,m+1,c2,l'++ [hiB x i],by omega,by omega,rfl,rfl,by rw [← hHL.out,List.append_assoc];rfl,ha2⟩
   case measure=>simp [intOf]
  ·have hj0:j=0:=by omega
   subst hj0;obtain rfl:m=n+k:=by omega
   have hneg:¬ (0:Int)≤ -1:=by omega
   have hl2:l'=l++highL k x:=by simpa [highL] using hl
   have HL:=hid hl2;clear hl hl2;go_wp2_with fail;go_ret
   exact ⟨A1,c1,rfl,by rw [← List.map_append,← HL.out];exact ha⟩
end Go.Proofs.YtnknjeipfjdjoaaGreatDoor
namespace Wells
open Go Go.RowKit
def seedL (o b t:Int):BitVec 32:=BitVec.ofInt 32 (128*o+16*b+t)
theorem Zzae (o b t:Int):((seedL o b t).toNat:Int)=(128*o+16*b+t) % 4294967296:=by
 unfold seedL;rw [BitVec.toNat_ofInt];omega
end Wells
namespace Go.Proofs.YtnknjeipfjdjoaaGreatDoor
open Go.RowKit Wells
theorem Zz0s (n least most:Int) (b:Bool) (w:World) (hb:decide (least≤n∧n≤most)=b):Calls Tryz.prog 93 #[.int .i64 n,.int .i64 least,.int .i64 most] w fun e w'=>e= .returned (.bool b)∧w=w':=by
 have HB:=hid hb;clear hb;go_enter Tryz.func93,Tryz.ntmps93;go_wp2_with fail;all_goals (go_ret;exact ⟨Zz0a (by rw [← HB.out];first | (refine decide_eq_decide.2 ?_;omega) | (refine (decide_eq_false ?_).symm;omega)),rfl⟩)
theorem Zz8f (o b t:Int) (w:World):Calls Tryz.prog 87 #[.int .i64 o,.int .i64 b,.int .i64 t] w fun e w'=>e= .returned (.int .u32 ((seedL o b t).toNat:Int))∧w=w':=by
 have hs:=hid (Zzae o b t);go_enter Tryz.func87,Tryz.ntmps87;go_wp2_with fail;go_ret
 refine ⟨Zz0z ?_,rfl⟩;rw [hs.out];omega
theorem Zz37 (o b t:Int) (w:World):Calls Tryz.prog 72 #[.int .i64 o,.int .i64 b,.int .i64 t] w fun e w'=>e= .returned (.int .u32 ((seedL o b t).toNat:Int))∧w=w':=by
 have hs:=hid (Zzae o b t);go_enter Tryz.func72,Tryz.ntmps72;go_wp2_with fail;go_ret
 refine ⟨Zz0z ?_,rfl⟩;rw [hs.out];omega
theorem Zzfl {l:List Byte} {k:Nat} (hk:k < l.length) (h:nameC (l.getD k 0)=false):nameOk l=false:=by
 unfold nameOk;have:l.all nameC=false:=by
  rw [List.all_eq_false];exact ⟨l.getD k 0,by rw [ZgD,ZgE hk];exact List.getElem_mem _,by rw [h];simp⟩
 rw [this,Bool.false_and]
theorem Zzbx {l:List Byte} (h:∀ k,k < l.length→nameC (l.getD k 0)=true):nameOk l=decide (1≤l.length∧l.length≤12):=by
 unfold nameOk;have:l.all nameC=true:=by
  rw [List.all_eq_true];intro c hc;obtain ⟨k,hk,rfl⟩:=List.getElem_of_mem hc;have:=h k hk
  rwa [ZgD,ZgE hk] at this
 rw [this,Bool.true_and]
theorem Zz0j (l:List Byte) (b:Bool) (w:World) (hl:l.length≤1048576) (hb:nameOk l=b):Calls Tryz.prog 98 #[.string (strB l)] w fun e w'=>e= .returned (.bool b)∧w=w':=by
 have HB:=hid hb;have hsz:=Zz1t l;have HG:=hid (Zzc1 l);obtain ⟨s,hs⟩:∃ s,strB l=s:=⟨_,rfl⟩;rw [hs] at hsz HG ⊢;obtain ⟨n,hn⟩:∃ n,s.size=n:=⟨_,rfl⟩;have HN:=hid hn;have HL:=hid (show l.length=n by omega);have hn1:n≤1048576:=by omega
 have hsm:s.size≤1048576:=by omega
 clear hb hs hsz hn hl;go_enter Tryz.func98,Tryz.ntmps98;go_wp2_with fail;go_loop [3] (fun i=>∃ k:Nat,k≤s.size∧i= .int .i64 k∧Hid (∀ j,j < k→nameC (l.getD j 0)=true)) (fun i=>s.size - (intOf i).toNat)
 case atStart=>exact ⟨0,Nat.zero_le _,rfl,hid (fun j hj=>absurd hj (by omega))⟩
 case round=>
  obtain ⟨k,hk,rfl,HK⟩:=hrel;by_cases hlt:k < s.size
  ·have hg:=HG.out k hlt
   have hc255:=(l.getD k 0).isLt;obtain ⟨x,hx⟩:∃ x:Nat,(l.getD k 0).toNat=x:=⟨_,rfl⟩;have HX:=hid hx;rw [hx] at hg hc255;have HG':=hid hg;have e2:((s[k]'hlt).toNat:Int)=(x:Int):=hg;clear hx hg;by_cases hc:(97≤x∧x≤122)∨(48≤x∧x≤57)∨x=45
   ·have hcb:nameC (l.getD k 0)=true:=by unfold nameC;rw [HX.out];exact decide_eq_true hc
    have HCB:=hid hcb;clear hcb;rcases hc with ⟨c1,c2⟩ | ⟨c1,c2⟩ | c1
    ·have x1:(97:Int)≤(x:Int):=by omega
     have x2:(x:Int)≤122:=by omega
     go_wp2_with fail;all_goals
      go_round
      case rel=>exact ⟨k+1,by omega,by go_num,hid (fun j hj=>by
       rcases Nat.lt_or_ge j k with h | h
       ·exact HK.out j h
       ·obtain rfl:j=k:=by omega
        exact HCB.out)⟩
      case measure=>simp [intOf];omega
    ·have x1:(48:Int)≤(x:Int):=by omega
     have x2:(x:Int)≤57:=by omega
     have x3:¬ (97:Int)≤(x:Int):=by omega
     go_wp2_with fail;all_goals
      go_round
      case rel=>exact ⟨k+1,by omega,by go_num,hid (fun j hj=>by
       rcases Nat.lt_or_ge j k with h | h
       ·exact HK.out j h
       ·obtain rfl:j=k:=by omega
        exact HCB.out)⟩
      case measure=>simp [intOf];omega
    ·subst c1
     go_wp2_with fail;all_goals
      go_round
      case rel=>exact ⟨k+1,by omega,by go_num,hid (fun j hj=>by
       rcases Nat.lt_or_ge j k with h | h
       ·exact HK.out j h
       ·obtain rfl:j=k:=by omega
        exact HCB.out)⟩
      case measure=>simp [intOf];omega
   ·have hno:nameOk l=false:=Zzfl (k:=k) (by rw [HL.out];have:=HN.out;omega) (by unfold nameC;rw [HX.out];exact decide_eq_false hc)
    have hb2:b=false:=by rw [← HB.out,hno]
    subst hb2;have x0:x≠45:=by omega
    have x1:((x:Int)==45)=false:=by simp;omega
    clear hno;go_wp2_with fail;all_goals first | (exfalso;omega) | (go_ret;exact ⟨rfl,rfl⟩)
  ·have hkn:k=n:=by have:=HN.out;omega
   have hyes:=Zzbx (l:=l) (fun j hj=>HK.out j (by rw [HL.out] at hj;omega));have HY:=hid hyes;have hsn:=HN.out;clear hyes;go_wp2_with fail;all_goals (go_ret;exact ⟨Zz0a (by rw [← HB.out,HY.out,HL.out];first | (refine decide_eq_decide.2 ?_;omega) | (refine (decide_eq_false ?_).symm;omega)),rfl⟩)
theorem Zzgs (l:List Byte) (b:Bool) (w:World) (hl:l.length≤1048576) (hb:nameOk l=b):Calls Tryz.prog 116 #[.string (strB l)] w fun e w'=>e= .returned (.bool b)∧Below w.heap.size w w':=by
 have HB:=hid hb;have hsz:=Zz1t l;have HG:=hid (Zzc1 l);obtain ⟨s,hs⟩:∃ s,strB l=s:=⟨_,rfl⟩;rw [hs] at hsz HG ⊢;obtain ⟨n,hn⟩:∃ n,s.size=n:=⟨_,rfl⟩;have HN:=hid hn;have HL:=hid (show l.length=n by omega);have hn1:n≤1048576:=by omega
 have hsm:s.size≤1048576:=by omega
 have hconv:=run_bytes_of_string (P:=Tryz.prog) w 9 33 5 s Tryz.underlying9 Tryz.underlying33 Tryz.underlying5;obtain ⟨cap,hcap⟩:∃ c,grownCap w s.size 0 5=c:=⟨_,rfl⟩;rw [hcap] at hconv;obtain ⟨w2,hw2⟩:∃ w2,w2=w.drew.alloc (.cells (bytesRow s cap) 5 ((bytesRow s cap).size,(bytesRow s cap).size+1)):=⟨_,rfl⟩;rw [← hw2] at hconv;have hbl:Below w.heap.size w w2:=by rw [hw2];exact ((Below.refl _ _).drew).alloc (ZnR _) _
 have hcell:∀ k,k < s.size→w2.cell? ⟨w.heap.size,k,none⟩=some (.int .u8 ((l.getD k 0).toNat:Int)):=fun k hk=>by
  rw [hw2];rw [← HG.out k hk];have:=World.cell?_alloc_mark w.drew (bytesRow s cap) 5 ((bytesRow s cap).size,(bytesRow s cap).size+1) k
  refine this.trans ?_;exact bytesRow_at s cap k hk
 have HCELL:=hid hcell;clear hb hs hsz hn hl hcap hw2 hcell;go_enter Tryz.func116,Tryz.ntmps116;go_wp2_with fail;go_loop [8] (fun i=>∃ k:Nat,k≤s.size∧i= .int .i64 k∧Hid (∀ j,j < k→nameC (l.getD j 0)=true)) (fun i=>s.size - (intOf i).toNat)
 case atStart=>exact ⟨0,Nat.zero_le _,rfl,hid (fun j hj=>absurd hj (by omega))⟩
 case round=>
  obtain ⟨k,hk,rfl,HK⟩:=hrel;by_cases hlt:k < s.size
  ·have hce:=HCELL.out k hlt
   have hc255:=(l.getD k 0).isLt;obtain ⟨x,hx⟩:∃ x:Nat,(l.getD k 0).toNat=x:=⟨_,rfl⟩;have HX:=hid hx;rw [hx] at hce hc255;clear hx;by_cases hc:(97≤x∧x≤122)∨(48≤x∧x≤57)∨x=45
   ·have hcb:nameC (l.getD k 0)=true:=by unfold nameC;rw [HX.out];exact decide_eq_true hc
    have HCB:=hid hcb;clear hcb;rcases hc with ⟨c1,c2⟩ | ⟨c1,c2⟩ | c1
    ·have x1:¬ (x:Int) < 97:=by omega
     have x2:¬ 122 < (x:Int):=by omega
     go_wp2_with fail;all_goals
      go_round
      case rel=>exact ⟨k+1,by omega,by go_num,hid (fun j hj=>by
       rcases Nat.lt_or_ge j k with h | h
       ·exact HK.out j h
       ·obtain rfl:j=k:=by omega
        exact HCB.out)⟩
      case measure=>simp [intOf];omega
    ·have x1:¬ (x:Int) < 48:=by omega
     have x2:¬ 57 < (x:Int):=by omega
     have x3:(x:Int) < 97:=by omega
     go_wp2_with fail;all_goals
      go_round
      case rel=>exact ⟨k+1,by omega,by go_num,hid (fun j hj=>by
       rcases Nat.lt_or_ge j k with h | h
       ·exact HK.out j h
       ·obtain rfl:j=k:=by omega
        exact HCB.out)⟩
      case measure=>simp [intOf];omega
    ·subst c1
     go_wp2_with fail;all_goals
      go_round
      case rel=>exact ⟨k+1,by omega,by go_num,hid (fun j hj=>by
       rcases Nat.lt_or_ge j k with h | h
       ·exact HK.out j h
       ·obtain rfl:j=k:=by omega
        exact HCB.out)⟩
      case measure=>simp [intOf];omega
   ·have hno:nameOk l=false:=Zzfl (k:=k) (by rw [HL.out];have:=HN.out;omega) (by unfold nameC;rw [HX.out];exact decide_eq_false hc)
    have hb2:b=false:=by rw [← HB.out,hno]
    subst hb2;have x1:((x:Int) !=45)=true:=by simp;omega
    clear hno;go_wp2_with fail;all_goals first | (exfalso;omega) | (go_ret;exact ⟨rfl,hbl⟩)
  ·have hkn:k=n:=by have:=HN.out;omega
   have hyes:=Zzbx (l:=l) (fun j hj=>HK.out j (by rw [HL.out] at hj;omega));have HY:=hid hyes;have hsn:=HN.out;clear hyes;go_wp2_with fail;all_goals (go_ret;exact ⟨Zz0a (by rw [← HB.out,HY.out,HL.out];first | (refine decide_eq_decide.2 ?_;omega) | (refine (decide_eq_false ?_).symm;omega)),hbl⟩)
theorem Zz1j (l:List Int) (k:Nat) (h:k < l.length):(l.map iv)[k]? =some (.int .i64 (l.getD k 0)):=by
 rw [List.getElem?_map,ZgE h];simp [h,iv]
theorem Zzg8 (B:Nat) (A:Option Addr) (l:List Int) (n c:Nat) (most:Int) (b:Bool) (w:World) (h:Sl w B 1 A n (l.map iv)) (hn:n≤9223372036854775807) (hb:riseB l most=b):
  Calls Tryz.prog 94 #[.slice A n c,.int .i64 most] w fun e w'=>e= .returned (.bool b)∧∃ d,w'=w.drewN d:=by
 have HL:=hid (show l.length=n by have:=h.len;simpa using this);have HB:=hid hb;clear hb;go_enter Tryz.func94,Tryz.ntmps94;go_wp2_with fail;go_loopw [9] (fun i wr=>∃ k d:Nat,k≤n∧i= .int .i64 k∧wr=w.drewN d∧Hid (∀ j,j < k→riseStep l most j=true)) (fun i _=>n - (intOf i).toNat)
 case atStart=>exact ⟨0,0,Nat.zero_le _,rfl,rfl,hid (fun j hj=>absurd hj (by omega))⟩
 case round=>
  obtain ⟨k,d,hk,rfl,rfl,HK⟩:=hrel;by_cases hlt:k < n
  ·obtain ⟨bb,o,rfl,hbb,hce⟩:=h.get hlt (Zz1j l k (by rw [HL.out];exact hlt))
   have hcp:0 < k→w.cell? ⟨bb,o+(k - 1),none⟩=some (.int .i64 (l.getD (k - 1) 0)):=fun h0=>by
    obtain ⟨b2,o2,e,_,h2⟩:=h.get (k:=k - 1) (by omega) (Zz1j l (k - 1) (by rw [HL.out];omega));injection e with e;injection e with e1 e2;subst e1 e2;exact h2
   obtain ⟨x,hx⟩:∃ x,l.getD k 0=x:=⟨_,rfl⟩;obtain ⟨y,hy⟩:∃ y,l.getD (k - 1) 0=y:=⟨_,rfl⟩;have HX:=hid hx;have HY:=hid hy;rw [hx] at hce;simp only [hy] at hcp;clear hx hy;have hst:riseStep l most k=(decide (0≤x∧x≤most) && (decide (k=0) || decide (y < x))):=by unfold riseStep;rw [HX.out,HY.out]
   have HST:=hid hst;clear hst;cases hw1:decide (0≤x∧x≤most) with
   | false=>
    have hno:b=false:=by rw [← HB.out];exact Zz0l (k:=k) (by rw [HL.out];exact hlt) (by rw [HST.out,hw1,Bool.false_and])
    subst hno;have HW1:=hid hw1;clear hw1 hcp;go_wp2_with fail;refine (Zz0s x 0 most false _ HW1.out).mono ?_;rintro e w3 ⟨rfl,hw3⟩;rw [← hw3];clear hw3 w3;go_wp2_with fail;go_ret
    exact ⟨rfl,_,rfl⟩
   | true=>
    have HW1:=hid hw1;by_cases hk0:k=0
    ·subst hk0
     have hs:riseStep l most 0=true:=by rw [HST.out,hw1];rfl
     have HS:=hid hs;have hce0:w.cell? ⟨bb,o,none⟩=some (.int .i64 x):=hce;clear hw1 hcp hs;go_wp2_with fail;refine (Zz0s x 0 most true _ HW1.out).mono ?_;rintro e w3 ⟨rfl,hw3⟩;rw [← hw3];clear hw3 w3;go_wp2_with fail;go_roundw
     case rel=>exact ⟨1,d,by omega,by first | rfl | go_num,rfl,hid (fun j hj=>(show j=0 by omega) ▸ HS.out)⟩
     case measure=>simp [intOf];omega
    ·have hcp':=hcp (by omega)
     have hk1:(0:Int) < (k:Int):=by omega
     have hk1n:0 < k:=by omega
     have hkc:((k:Int) - 1)=((k - 1:Nat):Int):=by omega
     have hk2:(0:Int)≤(k:Int) - 1:=by omega
     have hk3:(k:Int) - 1 < (n:Int):=by omega
     clear hcp hkc;by_cases hyx:y < x
     ·have hs:riseStep l most k=true:=by rw [HST.out,hw1];simp [hyx]
      have HS:=hid hs;clear hw1 hs;go_wp2_with fail;refine (Zz0s x 0 most true _ HW1.out).mono ?_;rintro e w3 ⟨rfl,hw3⟩;rw [← hw3];clear hw3 w3;go_wp2_with fail;go_roundw
      case rel=>exact ⟨k+1,d,by omega,by go_num,rfl,hid (fun j hj=>by
       rcases Nat.lt_or_ge j k with h | h
       ·exact HK.out j h
       ·obtain rfl:j=k:=by omega
        exact HS.out)⟩
      case measure=>simp [intOf];omega
     ·have hno:b=false:=by rw [← HB.out];exact Zz0l (k:=k) (by rw [HL.out];exact hlt) (by rw [HST.out,hw1];simp [hyx,hk0])
      subst hno;clear hw1;go_wp2_with fail;refine (Zz0s x 0 most true _ HW1.out).mono ?_;rintro e w3 ⟨rfl,hw3⟩;rw [← hw3];clear hw3 w3;go_wp2_with fail;go_ret
      exact ⟨rfl,_,rfl⟩
  ·obtain rfl:k=n:=by omega
   have hyes:b=true:=by rw [← HB.out];exact Zz0y (fun j hj=>HK.out j (by rw [HL.out] at hj;exact hj))
   subst hyes;go_wp2_with fail;go_ret
   exact ⟨rfl,_,rfl⟩
theorem Zzfi (x:Int) (b:Bool) (w:World) (hb:decide (0≤x∧x≤15)=b):Calls Tryz.prog 118 #[.int .i64 x] w fun e w'=>e= .returned (.bool (!b))∧w=w':=by
 go_enter Tryz.func118,Tryz.ntmps118;go_wp2_with fail;refine (Zz0s x 0 15 b _ hb).mono ?_;rintro e w3 ⟨rfl,hw3⟩;rw [← hw3];clear hw3 w3;go_wp2_with fail;go_ret
 exact ⟨rfl,rfl⟩
def TrimR (w:World) (A:Option Addr) (n c:Nat) (l:List Byte) (e:Ending) (w':World):Prop:=
 ∃ k,k≤n∧e= .returned (.slice A k c)∧w=w'∧(0 < k→l.getD (k - 1) 0≠0#8)∧∀ i,k≤i→i < n→l.getD i 0=0#8
theorem Zze3 (B:Nat) (A:Option Addr) (l:List Byte) (n c:Nat) (w:World) (h:Sl w B 1 A n (l.map bv8)) (hn:n≤c) (hc:c≤9223372036854775807):
  Calls Tryz.prog 132 #[.slice A n c,.int .u8 0] w (TrimR w A n c l):=by
 have HL:=hid (show l.length=n by have:=h.len;simpa using this);have H:=hid h;clear h;go_enter Tryz.func132,Tryz.ntmps132;go_wp2_with fail;go_loopw [0] (fun v wr=>∃ k:Nat,k≤n∧v= .slice A k c∧wr=w∧Hid (∀ i,k≤i→i < n→l.getD i 0=0#8)) (fun v _=>(match v with | .slice _ k _=>k | _=>0))
 case atStart=>exact ⟨n,ZnR _,rfl,rfl,hid (fun i h1 h2=>absurd h1 (by omega))⟩
 case round=>
  obtain ⟨k,hk,rfl,rfl,HK⟩:=hrel;by_cases hk0:k=0
  ·subst hk0
   go_wp2_with fail;go_ret
   exact ⟨0,Nat.zero_le _,rfl,rfl,fun h=>absurd h (by omega),fun i h1 h2=>HK.out i h1 h2⟩
  ·obtain ⟨k',rfl⟩:∃ k',k=k'+1:=⟨k - 1,by omega⟩
   obtain ⟨bb,o,rfl,hbb,hce⟩:=H.out.get (k:=k') (by omega) (Zz1l l k' (by rw [HL.out];omega));obtain ⟨x,hx⟩:∃ x,l.getD k' 0=x:=⟨_,rfl⟩;rw [hx] at hce;have HX:=hid hx;unfold bv8 at hce;have hj1:((k'+1:Nat):Int) - 1=(k':Int):=by omega
   clear hx;by_cases hx0:x=0#8
   ·have hb:((x.toNat:Int)==0)=true:=by rw [hx0];rfl
    go_wp2_with fail;go_roundw
    case rel=>exact ⟨k',by omega,by go_num,by first | rfl | trivial,hid (fun i h1 h2=>by
     rcases Nat.lt_or_ge k' i with h9 | h9
     ·exact HK.out i h9 h2
     ·obtain rfl:i=k':=by omega
      rw [HX.out];exact hx0)⟩
    case measure=>simp
   ·have hb:((x.toNat:Int)==0)=false:=by
     have:x.toNat≠0:=fun h9=>hx0 (BitVec.eq_of_toNat_eq (by simpa using h9))
     simp;omega
    go_wp2_with fail;go_ret
    exact ⟨k'+1,by omega,rfl,rfl,fun _=>by rw [Nat.add_sub_cancel,HX.out];exact hx0,HK.out⟩
theorem Zzgv (k:Nat) (B:Nat) (A:Option Addr) (l:List Byte) (n c:Nat) (w:World) (h:Sl w B 1 A n (l.map bv8)) (hn:n≤c) (hc:c≤9223372036854775807) (hk:k≤n) (h1:0 < k→l.getD (k - 1) 0≠0#8) (h2:∀ i,k≤i→i < n→l.getD i 0=0#8):
  Calls Tryz.prog 132 #[.slice A n c,.int .u8 0] w fun e w'=>e= .returned (.slice A k c)∧w'=w:=by
 refine (Zze3 B A l n c w h hn hc).mono ?_;rintro e w1 ⟨k',hk',rfl,rfl,h3,h4⟩;obtain rfl:k=k':=by
  rcases Nat.lt_trichotomy k k' with h9 | h9 | h9
  ·exact absurd (h2 (k' - 1) (by omega) (by omega)) (h3 (by omega))
  ·exact h9
  ·exact absurd (h4 (k - 1) (by omega) (by omega)) (h1 (by omega))
 exact ⟨rfl,rfl⟩
def trimLv (A:Option Addr) (n c j:Nat):Value:=if j=n then .slice none 0 0 else .slice (A.map (·.add j)) (n - j) (c - j)
theorem Zzg4 (q:Nat) (v:Value) (B:Nat) (A:Option Addr) (l:List Byte) (n c:Nat) (w:World) (h:Sl w B 1 A n (l.map bv8)) (hn:n≤c) (hc:c≤9223372036854775807)
  (hq:q≤n) (h1:∀ i,i < q→l.getD i 0=0#8) (h2:q < n→l.getD q 0≠0#8) (hv:trimLv A n c q=v):
  Calls Tryz.prog 131 #[.slice A n c,.int .u8 0] w fun e w'=>e= .returned v∧w'=w:=by
 have HL:=hid (show l.length=n by have:=h.len;simpa using this);have H:=hid h;have H1:=hid h1;have H2:=hid h2;have HV:=hid hv;clear h h1 h2 hv;go_enter Tryz.func131,Tryz.ntmps131;go_wp2_with fail;go_loopw [0] (fun v wr=>∃ (j:Nat) (A1:Option Addr),j≤q∧v= .slice A1 (n - j) (c - j)∧wr=w∧Hid (j < n→A1=A.map (·.add j))) (fun v _=>(match v with | .slice _ k _=>k | _=>0))
 case atStart=>exact ⟨0,A,Nat.zero_le _,rfl,rfl,hid (fun h0=>by
  obtain ⟨b,o,e,_⟩:=H.out.at_ h0;subst e;rfl)⟩
 case round=>
  obtain ⟨j,A1,hj,rfl,rfl,HA⟩:=hrel;by_cases hk0:j=n
  ·subst hk0
   obtain rfl:q=j:=by omega
   rw [Nat.sub_self];go_wp2_with fail;go_ret
   exact ⟨by rw [← HV.out];unfold trimLv;rw [if_pos rfl];rfl,rfl⟩
  ·have hg0:=Zz1l l j (by rw [HL.out];omega)
   obtain ⟨bb,o,rfl,hbb,hce⟩:=H.out.get (k:=j) (by omega) hg0;obtain rfl:A1=some ⟨bb,o+j,none⟩:=by rw [HA.out (by omega)];simp [Zz0m]
   obtain ⟨x,hx⟩:∃ x,l.getD j 0=x:=⟨_,rfl⟩;rw [hx] at hce;have HX:=hid hx;unfold bv8 at hce;obtain ⟨n1,hn1⟩:∃ n1,n - j=n1:=⟨_,rfl⟩;obtain ⟨c1,hc1⟩:∃ c1,c - j=c1:=⟨_,rfl⟩;have HN1:=hid hn1;have HC1:=hid hc1;rw [hn1,hc1];have hp1:0 < n1:=by omega
   have hp2:n1≤c1:=by omega
   have hp3:c1≤9223372036854775807:=by omega
   clear hx hg0 hn1 hc1;by_cases hx0:x=0#8
   ·have hb:((x.toNat:Int)==0)=true:=by rw [hx0];rfl
    have hjq:j < q:=by
     rcases Nat.lt_or_ge j q with h9 | h9
     ·exact h9
     ·obtain rfl:j=q:=by omega
      exact absurd (HX.out.trans hx0) (H2.out (by omega))
    go_wp2_with fail;go_roundw
    case rel=>
     have e1:=HN1.out;have e2:=HC1.out;refine ⟨j+1,_,by omega,by rw [show n - (j+1)=n1 - 1 by omega,show c - (j+1)=c1 - 1 by omega],by first | rfl | trivial,hid (fun h0=> ?_)⟩;rw [if_neg (by omega)];simp [Zz0m,Nat.add_assoc]
    case measure=>simp;omega
   ·have hb:((x.toNat:Int)==0)=false:=by
     have:x.toNat≠0:=fun h9=>hx0 (BitVec.eq_of_toNat_eq (by simpa using h9))
     simp;omega
    obtain rfl:j=q:=by
     rcases Nat.lt_or_ge j q with h9 | h9
     ·exact absurd (HX.out.symm.trans (H1.out j h9)) hx0
     ·omega
    go_wp2_with fail;go_ret
    exact ⟨by rw [← HV.out];unfold trimLv;rw [if_neg hk0,HN1.out,HC1.out];simp [Zz0m],rfl⟩
theorem Zz44 (l:List Byte):∀ n,∃ k,k≤n∧(0 < k→l.getD (k - 1) 0≠0#8)∧∀ i,k≤i→i < n→l.getD i 0=0#8
 | 0=>⟨0,ZnR _,fun h=>absurd h (by omega),fun i _ h=>absurd h (by omega)⟩
 | n+1=>by
  by_cases h0:l.getD n 0=0#8
  ·obtain ⟨k,h1,h2,h3⟩:=Zz44 l n
   refine ⟨k,by omega,h2,fun i hi hi2=> ?_⟩;rcases Nat.lt_or_ge i n with h9 | h9
   ·exact h3 i hi h9
   ·obtain rfl:i=n:=by omega
    exact h0
  ·exact ⟨n+1,ZnR _,fun _=>h0,fun i h1 h2=>absurd h1 (by omega)⟩
theorem Zz3d (l:List Byte):∀ n,∃ q,q≤n∧(∀ i,i < q→l.getD i 0=0#8)∧(q < n→l.getD q 0≠0#8)
 | 0=>⟨0,ZnR _,fun i h=>absurd h (by omega),fun h=>absurd h (by omega)⟩
 | n+1=>by
  obtain ⟨q,h1,h2,h3⟩:=Zz3d l n;by_cases hq:q < n
  ·exact ⟨q,by omega,h2,fun _=>h3 hq⟩
  ·obtain rfl:q=n:=by omega
   by_cases h0:l.getD q 0=0#8
   ·refine ⟨q+1,ZnR _,fun i hi=> ?_,fun h=>absurd h (by omega)⟩
    rcases Nat.lt_or_ge i q with h9 | h9
    ·exact h2 i h9
    ·obtain rfl:i=q:=by omega
     exact h0
   ·exact ⟨q,by omega,h2,fun _=>h0⟩
theorem Zzh2 (B:Nat) (A:Option Addr) (l:List Byte) (n c:Nat) (w:World) (h:Sl w B 1 A n (l.map bv8)) (hn:n≤c) (hc:c≤9223372036854775807):
  Calls Tryz.prog 120 #[.slice A n c,.string { data:= #[0]}] w fun e w'=>∃ A' n' c',e= .returned (.slice A' n' c')∧(∃ d,w'=w.drewN d)∧n'≤9223372036854775807∧(n'=0↔∀ i,i < l.length→l.getD i 0=0#8):=by
 have HL:=hid (show l.length=n by have:=h.len;simpa using this);by_cases h0:n=0
 ·subst h0
  clear h;go_enter Tryz.func120,Tryz.ntmps120;go_wp2_with fail;go_ret
  exact ⟨_,_,_,rfl,⟨0,rfl⟩,by omega,by simp;intro i hi;exact absurd hi (by rw [HL.out];omega)⟩
 ·obtain ⟨k,hk,hk1,hk2⟩:=Zz44 l n
  obtain ⟨q,hq,hq1,hq2⟩:=Zz3d l k;have ht:=h.take hk;rw [Nat.mul_one,← List.map_take] at ht;have HT:=hid ht;have H:=hid h;have hgt:∀ i,i < k→(l.take k).getD i 0=l.getD i 0:=fun i hi=>by
   rw [ZgD,ZgD,List.getElem?_take_of_lt hi]
  obtain ⟨v,hv⟩:∃ v,trimLv A k c q=v:=⟨_,rfl⟩;have HV:=hid hv;have C1:=hid (fun w'=>fun (h9:Sl w' B 1 A n (l.map bv8))=>Zzgv k B A l n c w' h9 hn hc hk hk1 hk2);have C2:=hid (fun w'=>fun (h9:Sl w' B 1 A k ((l.take k).map bv8))=>Zzg4 q v B A (l.take k) k c w' h9 (by omega) hc hq (fun i hi=>(hgt i (by omega)).trans (hq1 i hi)) (fun h9=>by rw [hgt q h9];exact hq2 h9) hv);have HZ:Hid ((k - q=0)↔∀ i,i < l.length→l.getD i 0=0#8):=hid ⟨fun h9 i hi=>by
   rw [HL.out] at hi;rcases Nat.lt_or_ge i k with h8 | h8
   ·exact hq1 i (by omega)
   ·exact hk2 i h8 hi,fun h9=>by
   rcases Nat.lt_or_ge q k with h8 | h8
   ·exact absurd (h9 q (by rw [HL.out];omega)) (hq2 h8)
   ·omega⟩
  clear h ht hk1 hk2 hq1 hq2 hgt hv;go_enter Tryz.func120,Tryz.ntmps120;go_wp2_with fail;go_quiet (first
   | (go_at_call 132;exact Calls.quiet_of_same (C1.out _ (H.out.drewN _)))
   | (go_at_call 131;exact Calls.quiet_of_same (C2.out _ (HT.out.drewN _))))
  go_wp2_with fail;go_ret
  have hv:=HV.out;unfold trimLv at hv;by_cases h9:q=k
  ·rw [if_pos h9] at hv
   subst hv;exact ⟨none,0,0,rfl,⟨_,rfl⟩,by omega,by rw [← HZ.out];omega⟩
  ·rw [if_neg h9] at hv
   subst hv;exact ⟨_,k - q,_,rfl,⟨_,rfl⟩,by omega,HZ.out⟩
end Go.Proofs.YtnknjeipfjdjoaaGreatDoor
