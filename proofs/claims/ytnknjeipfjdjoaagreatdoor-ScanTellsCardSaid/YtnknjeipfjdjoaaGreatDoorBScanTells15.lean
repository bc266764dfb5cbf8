/- RefCell -/
import Derived.Test.YtnknjeipfjdjoaaGreatDoorBScanTells08
set_option maxHeartbeats 8000000
set_option maxRecDepth 20000
set_option linter.unusedSimpArgs false
set_option linter.unusedVariables false
namespace Wells
open Go
def lenOf:Value→Nat
 | .slice _ n _=>n
 | _=>0
def hdRow (k:BitVec 8) (l:BL) (j:Nat):BL:= [0x57#8,0x73#8,1#8,k]++l++List.replicate j 0#8
theorem Zzap (k:BitVec 8) (l:BL) (j:Nat):hdRow k l (j+1)=hdRow k l j++ [0#8]:=by
 unfold hdRow;rw [List.replicate_succ',List.append_assoc,List.append_assoc,List.append_assoc]
theorem Zzaz (k:BitVec 8) (l:BL):hdRow k l (55 - l.length)=front k l:=by unfold hdRow front pad;rw [List.append_assoc]
theorem Zzha (x:BitVec 32):(le4 x).map bv8= [.int .u8 ((x.toNat:Int) % 256),.int .u8 ((x.toNat:Int) / 256 % 256),.int .u8 ((x.toNat:Int) / 65536 % 256),.int .u8 ((x.toNat:Int) / 16777216)]:=by
 simp only [le4,List.map_cons,List.map_nil,bv8,BitVec.toNat_setWidth,BitVec.toNat_ushiftRight,Nat.shiftRight_eq_div_pow];have h:=x.isLt;simp
 omega
end Wells
namespace Go.Proofs.YtnknjeipfjdjoaaGreatDoor
open Go.RowKit Wells
theorem Zz2r (kind:Int) (B:Nat) (A:Option Addr) (l:List Byte) (n c:Nat) (w:World) (hk: -9223372036854775808≤kind∧kind≤9223372036854775807) (h:Sl w B 1 A n (l.map bv8)) (hB:B≤w.heap.size) (hn:n≤1048576):
  Calls Tryz.prog 35 #[.int .i64 kind,.slice A n c] w fun e w'=>∃ v,e= .returned v∧OB w.heap.size w' v (cellL kind l)∧Below w.heap.size w w':=by
 have hl:l.length=n:=by have:=h.len;simpa using this
 have HL:=hid hl;obtain ⟨i0,hi,hz0,hz1,hz2⟩:=info_parts infoB;by_cases hyes:1≤kind∧kind≤255∧l.length≤55
 ·have hce:=hid (Zz29 hyes)
  obtain ⟨h1,h2,h3⟩:=hyes;have hn55:n≤55:=by omega
  obtain ⟨k,hkk⟩:∃ k,BitVec.ofNat 8 kind.toNat=k:=⟨_,rfl⟩;have hkv:kind=(k.toNat:Int):=by rw [← hkk,BitVec.toNat_ofNat];omega
  rw [hkk] at hce;clear hkk hl;subst hkv;have hkb:=k.isLt;have hfl:=Zz2t (k:=k) h3;have HF:=hid hfl;have H3:=hid h3;clear h3 hfl;have b0:Below w.heap.size w (w.alloc (.cells #[.int .u8 87,.int .u8 115,.int .u8 1,.int .u8 (k.toNat:Int)] 5)):=(Below.refl _ _).alloc (ZnR _) _;have o0:(w.alloc (.cells #[.int .u8 87,.int .u8 115,.int .u8 1,.int .u8 (k.toNat:Int)] 5)).ownsRow w.heap.size 5 1 (.slice (some ⟨w.heap.size,0,none⟩) 4 4) 4 ([0x57#8,0x73#8,1#8,k].map bv8):=
   (Row.new w 5 #[.int .u8 87,.int .u8 115,.int .u8 1,.int .u8 (k.toNat:Int)]).own (ZnR _) (ZnR _) (by unfold maxLen;omega) rfl
  go_enter Tryz.func35,Tryz.ntmps35;go_wp2_with (at_builtin;go_must (refine Zz03 rfl (.tmp 20) (.tmp 21) 33 rfl w.heap.size 5 i0 (.int .u8 0) 1 1 Tryz.underlying33 hi hz0 hz1 hz2 rfl (by omega) _ 4 _ rfl o0 B A n c _ rfl (h.below (b0.mono hB)) (Zz0v _) (n+4) (by omega) ((hdRow k l 0).map bv8) (by unfold hdRow;simp) (by omega) (by omega) b0.size ?_);intro A1 c1 w1 o1 g1 _)
  have b1:Below w.heap.size w w1:=Zz04 b0 o0 g1 (ZnR _) b0.size;clear o0 b0 g1;generalize hg:w.heap.size=g at*;have hgw:g≤w.heap.size:=by omega
  have HG:=hid hg;clear hg;go_loopw [5] (fun v wr=>∃ (j:Nat) (Ao:Option Addr) (co:Nat),n+4+j≤59∧v= .slice Ao (n+4+j) co∧wr.ownsRow g 5 1 (.slice Ao (n+4+j) co) (n+4+j) ((hdRow k l j).map bv8)∧Below g w wr) (fun v _=>59 - lenOf v)
  case atStart=>exact ⟨0,A1,c1,by omega,rfl,o1,b1⟩
  case round=>
   obtain ⟨j,Ao,co,hj,rfl,ho,hbw⟩:=hrel;have hsw:g≤wr.heap.size:=by have:=hbw.size;omega
   by_cases hlt:n+4+j < 59
   ·have hsu:=hid (Zzap k l j)
    go_wp2_with (at_builtin;go_must (refine Zz03 rfl (.tmp 26) (.tmp 27) 33 rfl g 5 i0 (.int .u8 0) 1 1 Tryz.underlying33 hi hz0 hz1 hz2 rfl (by omega) (.slice Ao (n+4+j) co) (n+4+j) _ rfl (ho.alloc _) _ _ 1 1 _ rfl (Sl.fresh _ _ _ _ 1 rfl) (by simp [Value.oneCell']) (n+4+(j+1)) (by omega) ((hdRow k l (j+1)).map bv8) (by rw [hsu.out,List.map_append];rfl) (by omega) (by omega) (by simp;omega) ?_);intro A2 c2 w2 o2 g2 _)
    have b2:Below g w w2:=Zz04 (hbw.alloc hsw _) (ho.alloc _) g2 (ZnR _) (by simp;omega);go_roundw
    case rel=>exact ⟨j+1,A2,c2,by omega,rfl,o2,b2⟩
    case measure=>simp [lenOf];omega
   ·have hfu:=hid (Zzaz k l)
    rw [HL.out] at hfu;have hjj:j=55 - n:=by omega
    rw [hjj,hfu.out] at ho;have e59:n+4+(55 - n)=59:=by omega
    have E59:Hid (n+4+j=59):=(by omega:n+4+j=59);have e59i:(n:Int)+4+(j:Int)=59:=by omega
    rw [e59] at ho;rw [E59.out];have hso:=Sl.own ho;clear e59 hjj hfu;go_wp2_with fail;refine (Zzbp _ Ao (front k l) 59 co _ hso (by omega)).mono ?_;rintro e w2 ⟨rfl,rfl⟩;obtain ⟨s,hs⟩:∃ s,crc (front k l)=s:=⟨_,rfl⟩;have hsb:=s.isLt;rw [hs];have HS:=hid hs;clear hs;have hfin:=hid (show (frame k l).map bv8=(front k l).map bv8++ [.int .u8 ((s.toNat:Int) % 256),.int .u8 ((s.toNat:Int) / 256 % 256),.int .u8 ((s.toNat:Int) / 65536 % 256),.int .u8 ((s.toNat:Int) / 16777216),.int .u8 165] by
     unfold frame;rw [HS.out,List.map_append,List.map_append,Zzha,List.append_assoc];rfl)
    go_wp2_with (at_builtin;go_must (refine Zz03 rfl (.tmp 31) (.tmp 43) 33 rfl g 5 i0 (.int .u8 0) 1 1 Tryz.underlying33 hi hz0 hz1 hz2 rfl (by omega) (.slice Ao 59 co) 59 _ rfl (ho.alloc _) _ _ 5 5 _ rfl (Sl.fresh _ _ _ _ 5 rfl) (by simp [Value.oneCell']) 64 (by omega) ((frame k l).map bv8) hfin.out.symm (by omega) (by omega) (by simp;omega) ?_);intro A2 c2 w2 o2 g2 _)
    have b2:Below g w w2:=Zz04 (hbw.alloc hsw _) (ho.alloc _) g2 (ZnR _) (by simp;omega);go_ret
    rw [hce.out,HG.out];refine ⟨_,rfl,?_,b2⟩;unfold OB;rw [Zz27 H3.out];exact o2
 ·have hce:=hid (Zz7c hyes)
  have hor:kind < 1∨(1≤kind∧255 < kind)∨(1≤kind∧kind≤255∧55 < n):=by omega
  rw [hce.out];rcases hor with h1 | ⟨h1,h2⟩ | ⟨h1,h2,h3⟩
  all_goals
   go_enter Tryz.func35,Tryz.ntmps35;go_wp2_with fail;all_goals try omega
   go_ret
   exact ⟨_,rfl,World.ownsRow_nil _ _ _ _,Below.refl _ _⟩
end Go.Proofs.YtnknjeipfjdjoaaGreatDoor
