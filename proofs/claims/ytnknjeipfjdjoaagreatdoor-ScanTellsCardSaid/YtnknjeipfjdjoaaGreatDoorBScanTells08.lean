/- Cell Alike KeepI -/
import Derived.BigGuardPart
import Derived.Deep.RegionHeld3
import Derived.Test.YtnknjeipfjdjoaaGreatDoorBScanTells01
import Derived.Test.YtnknjeipfjdjoaaGreatDoorBScanTells07
set_option maxHeartbeats 8000000
set_option maxRecDepth 20000
set_option linter.unusedSimpArgs false
set_option linter.unusedVariables false
namespace Go.Proofs.YtnknjeipfjdjoaaGreatDoor
open Go.RowKit Wells
theorem Zz0e {B:Nat} {a w:World} (h:Below B a w) (g i:Nat) (hg:B≤g) (hs:B≤w.heap.size) (v:Value):Below B a (w.setCell ⟨g,i,none⟩ v):=
 Zz6g h ⟨rfl,rfl,rfl,by simp [World.setCell],fun k _ hne=>Below.heap_setCell w ⟨g,i,none⟩ v k (fun e=>hne (by rw [e]))⟩ hg hs
theorem splice4 (a b c d v:Value) (B:List Value):splice (splice (List.replicate 64 v) 0 [a,b,c,d]) 4 B= [a,b,c,d]++(B++List.replicate (60 - B.length) v):=by
 have e1:splice (List.replicate 64 v) 0 [a,b,c,d]= [a,b,c,d]++List.replicate 60 v:=rfl;rw [e1];unfold splice;rw [List.take_append_of_le_length (by simp),List.drop_append,List.drop_of_length_le (by simp),List.nil_append,List.drop_replicate];congr 3
 simp
theorem Zzhn (k:Byte) (b:List Byte) (hb:b.length≤55):
  splice (splice (List.replicate 64 (Value.int .u8 0)) 0 (([0x57#8,0x73#8,1#8,k].map bv8).take 64)) 4 ((b.map bv8).take 60)=(front k b++List.replicate 5 0#8).map bv8:=by
 have e:(b.map bv8).take 60=b.map bv8:=ZtL (by simp;omega);have e2:([0x57#8,0x73#8,1#8,k].map bv8).take 64= [bv8 0x57#8,bv8 0x73#8,bv8 1#8,bv8 k]:=rfl;rw [e,e2,splice4];unfold front pad;rw [List.map_append,List.map_append,List.map_append,List.map_replicate,List.map_replicate,List.length_map,List.append_assoc,List.append_assoc,List.replicate_append_replicate];rw [show 55 - b.length+5=60 - b.length by omega];rfl
def putRow (k:Byte) (b:List Byte) (s:BitVec 32) (i:Nat):List Byte:=front k b++((le4 s).take i++List.replicate (5 - i) 0#8)
theorem Zzcb (k:Byte) (b:List Byte) (s:BitVec 32) (i:Nat) (hi:i < 4) (hb:b.length≤55):
  ((putRow k b s i).map bv8).set (59+i) (bv8 ((le4 s).getD i 0))=(putRow k b s (i+1)).map bv8:=by
 have hf:=Zz2t (k:=k) hb;unfold putRow;rw [← List.map_set];congr 1
 rw [List.set_append_right _ _ (by omega),hf];congr 1
 obtain rfl | rfl | rfl | rfl:i=0∨i=1∨i=2∨i=3:=by omega
 all_goals simp [le4,List.replicate]
theorem Zzad (k:Byte) (b:List Byte) (hb:b.length≤55):((putRow k b (crc (front k b)) 4).map bv8).set 63 (bv8 0xa5#8)=(frame k b).map bv8:=by
 have hf:=Zz2t (k:=k) hb;unfold putRow frame;rw [← List.map_set];congr 1
 rw [List.set_append_right _ _ (by omega),hf,List.append_assoc];congr 1
theorem Zzif (s:BitVec 32) (i:Nat) (hi:i < 4):bv8 ((le4 s).getD i 0)= .int .u8 ((s.toNat:Int) / 2 ^ (8*i) % 256):=by
 have h:=s.isLt;obtain rfl | rfl | rfl | rfl:i=0∨i=1∨i=2∨i=3:=by omega
 all_goals
  simp [le4,bv8,BitVec.toNat_setWidth,BitVec.toNat_ushiftRight,Nat.shiftRight_eq_div_pow]
theorem Zzba (kind:Int) (B:Nat) (A:Option Addr) (l:List Byte) (n c:Nat) (w:World) (hk: -9223372036854775808≤kind∧kind≤9223372036854775807) (h:Sl w B 1 A n (l.map bv8)) (hB:B≤w.heap.size) (hn:n≤1048576):
  Calls Tryz.prog 109 #[.int .i64 kind,.slice A n c] w fun e w'=>∃ v,e= .returned v∧OB w.heap.size w' v (cellL kind l)∧Below w.heap.size w w':=by
 have hl:l.length=n:=by have:=h.len;simpa using this
 have HL:=hid hl;obtain ⟨i0,hi,hz0,hz1,hz2⟩:=info_parts infoB;have hsz:(Tryz.prog.info? 5).map (·.size)=some 1:=by rw [hi];simp [hz1]
 by_cases hyes:1≤kind∧kind≤255∧l.length≤55
 ·have hce:=hid (Zz29 hyes)
  obtain ⟨h1,h2,h3⟩:=hyes;have hn55:n≤55:=by omega
  obtain ⟨k,hkk⟩:∃ k,BitVec.ofNat 8 kind.toNat=k:=⟨_,rfl⟩;have hkv:kind=(k.toNat:Int):=by rw [← hkk,BitVec.toNat_ofNat];omega
  rw [hkk] at hce;clear hkk hl;subst hkv;have hkb:=k.isLt;have HPR:=hid (Zzhn k l h3);have hfl:=Zz2t (k:=k) h3;have HF:=hid hfl;have H3:=hid h3;clear h3 hfl;go_enter Tryz.func109,Tryz.ntmps109;go_wp2_with (first
   | (at_make;refine Zz7g _ rfl (.const (.int .i64 64)) (.const (.int .i64 64)) 33 rfl 5 i0 (.int .u8 0) 1 Tryz.underlying33 hi hz0 hz1 hz2 rfl .i64 .i64 _ _ 64 64 rfl rfl rfl (by omega) (by omega) (by omega) (by omega) ?_;intro w1 r1 b1 s1;have hs1:w1.heap.size=w.heap.size+1:=by omega)
   | ((with_reducible show wpList _ _ _ (⟨some 24,_,_,_,_,_⟩::_) _ _);go_must (refine Zzbz rfl (.tmp 20) (.tmp 23) 33 33 rfl 5 Tryz.underlying33 hsz _ _ 64 64 4 4 rfl rfl w.heap.size 0 _ 5 (r1.alloc _) _ ([0x57#8,0x73#8,1#8,k].map bv8) (by have hfr:=Sl.fresh w1 ([0x57#8,0x73#8,1#8,k].map bv8) 5 (0,0) 4 rfl;rw [hs1] at hfr;exact hfr) (fun _=>rfl) (by simp) (Zz0v _) ?_);intro w2 r2 g2)
   | ((with_reducible show wpList _ _ _ (⟨some 28,_,_,_,_,_⟩::_) _ _);go_must (refine Zzbz rfl (.tmp 26) (.tmp 27) 33 33 rfl 5 Tryz.underlying33 hsz _ _ 60 60 n c rfl rfl w.heap.size 4 _ 5 r2 B _ (h.below (((b1.alloc (show w.heap.size≤w1.heap.size by omega) _).grown g2 (by simp;omega) (fun k hk=>by injection hk with hk;omega)).mono hB)) (fun _=>rfl) (by simp [splice];omega) (Zz0v _) ?_);intro w3 r3 g3))
  have b2:Below w.heap.size w w2:=(b1.alloc (show w.heap.size≤w1.heap.size by omega) _).grown g2 (by simp;omega) (fun k hk=>by injection hk with hk;omega);have b3:Below w.heap.size w w3:=b2.grown g3 b2.size (fun k hk=>by injection hk with hk;omega);rw [HPR.out] at r3;have s3:Sl w3 (w.heap.size+1) 1 (some ⟨w.heap.size,0,none⟩) 59 ((front k l).map bv8):=by
   have:=r3.sl (B:=w.heap.size+1) (m:=59) (by omega) (by rw [List.length_map,List.length_append,HF.out];simp)
   rwa [List.map_append,List.take_append_of_le_length (by rw [List.length_map,HF.out];omega),ZtL (by rw [List.length_map,HF.out];omega)] at this
  clear r2 r1 g3 g2;refine (Zzhu _ _ (front k l) 59 _ _ s3 (by omega)).mono ?_;rintro e w4 ⟨rfl,rfl⟩;have R0:Row w3 w.heap.size 5 ((putRow k l (crc (front k l)) 0).map bv8):=r3;obtain ⟨s,hs⟩:∃ s,crc (front k l)=s:=⟨_,rfl⟩;have hsb:=s.isLt;have HRL:=hid (Zzad k l H3.out);rw [hs] at HRL R0 ⊢;have HS:=hid hs;have HFR:=hid (Zz27 (k:=k) H3.out);clear hs r3 s3 b1 b2;generalize hg:w.heap.size=g at*;have hgw:g≤w.heap.size:=by omega
  have HG:=hid hg;clear hg;go_wp2_with fail;go_loopw [32] (fun i wr=>∃ j:Nat,j≤4∧i= .int .i64 j∧Row wr g 5 ((putRow k l s j).map bv8)∧Below g w wr) (fun i _=>4 - (intOf i).toNat)
  case atStart=>exact ⟨0,by omega,rfl,R0,b3⟩
  case round=>
   obtain ⟨j,hj,rfl,hr,hbw⟩:=hrel;by_cases hlt:j < 4
   ·have hset:=hid (Zzcb k l s j hlt H3.out)
    have hval:=hid (Zzif s j hlt);have hplen:=hid (show (putRow k l s j).length=64 by unfold putRow;rw [List.length_append,List.length_append,HF.out,List.length_take,Zzam,List.length_replicate];omega);have hfz:=hr.frozen (59+j);have hcl:=hr.cell (59+j);rw [Zzeg _ _ (by rw [hplen.out];omega)] at hcl;generalize (putRow k l s j).getD (59+j) 0=old at hcl;have hcl2:wr.cell? ⟨g,59+j,none⟩=some (.int .u8 (old.toNat:Int)):=hcl;clear hcl;go_wp2_with fail;rw [← hval.out];go_roundw
    case rel=>exact ⟨j+1,by omega,by go_num,(hr.set (59+j) _).to hset.out,Zz0e hbw _ _ (ZnR _) (by have:=hbw.size;omega) _⟩
    case measure=>simp [intOf];omega
   ·have hj4:j=4:=by omega
    subst hj4;have hplen:=hid (show (putRow k l s 4).length=64 by unfold putRow;rw [List.length_append,List.length_append,HF.out,List.length_take,Zzam,List.length_replicate];omega);have hfz:=hr.frozen 63;have hcl:=hr.cell 63;rw [Zzeg _ _ (by rw [hplen.out];omega)] at hcl;generalize (putRow k l s 4).getD 63 0=old at hcl;have hcl2:wr.cell? ⟨g,63,none⟩=some (.int .u8 (old.toNat:Int)):=hcl;clear hcl;go_wp2_with fail;go_ret
    have r5:=(hr.set 63 (bv8 0xa5#8)).to HRL.out;have o5:=r5.own (base:=g) (size:=1) (n:=64) (cap:=64) (ZnR _) (ZnR _) (by unfold maxLen;omega) (by rw [List.length_map,HFR.out]);rw [HG.out];refine ⟨_,rfl,?_,Zz0e hbw _ _ (ZnR _) (by have:=hbw.size;omega) _⟩;rw [hce.out];unfold OB;rw [HFR.out];rw [ZtL (by rw [List.length_map,HFR.out];omega)] at o5;exact o5
 ·have hce:=hid (Zz7c hyes)
  have hor:kind < 1∨(1≤kind∧255 < kind)∨(1≤kind∧kind≤255∧55 < n):=by omega
  rw [hce.out];rcases hor with h1 | ⟨h1,h2⟩ | ⟨h1,h2,h3⟩
  all_goals
   go_enter Tryz.func109,Tryz.ntmps109;go_wp2_with fail;all_goals try omega
   go_ret
   exact ⟨_,rfl,World.ownsRow_nil _ _ _ _,Below.refl _ _⟩
theorem Zz5w (l l':List (List Byte)) (k:Nat) (h:k < l.length) (h':k < l'.length) (ht:l.take k=l'.take k) (hx:l.getD k []=l'.getD k []):l.take (k+1)=l'.take (k+1):=by
 rw [ZtS h,ZtS h',ht];simp [h,h'] at hx
 rw [hx]
theorem Zzfu (r:Bool) (B:Nat) (A A':Option Addr) (vs vs':List Value) (ls ls':List (List Byte)) (n n' c c':Nat) (w:World) (h:RBs w B A n vs ls) (h':RBs w B A' n' vs' ls') (hn:n≤9223372036854775807) (hn':n'≤9223372036854775807) (hr:decide (ls=ls')=r):
  Calls Tryz.prog 18 #[.slice A n c,.slice A' n' c'] w fun e w'=>e= .returned (.bool r)∧∃ d,w'=w.drewN d:=by
 have HR:=hid hr;have HL:=hid h.len;have HL':=hid h'.len;clear hr;by_cases hlen:n=n'
 ·subst hlen
  have hb:((n:Int) !=(n:Int))=false:=by simp
  go_enter Tryz.func18,Tryz.ntmps18;go_wp2
  go_loopw [13] (fun i wr=>∃ k:Nat,k≤n∧i= .int .i64 k∧Hid (ls.take k=ls'.take k)∧Hid (∃ d,wr=w.drewN d)) (fun i _=>n - (intOf i).toNat)
  case atStart=>exact ⟨0,Nat.zero_le _,rfl,rfl,0,rfl⟩
  case round=>
   obtain ⟨k,hk,rfl,ht,hd⟩:=hrel;have hbw:Below B w wr:=by
    obtain ⟨d,e⟩:=hd.out;rw [e];exact Zz01 (Below.refl B w) d
   by_cases hlt:k < n
   ·have hlt':(k:Int) < (n:Int):=by omega
    have hk0:(0:Int)≤(k:Int):=by omega
    obtain ⟨b,o,A1,c1,rfl,hb,hc,hl1,hc1,s1⟩:=(h.below hbw).get hlt;obtain ⟨b',o',A2,c2,rfl,hb',hc',hl2,hc2,s2⟩:=(h'.below hbw).get hlt;have HT:=hid (Zz5w ls ls' k (by rw [HL.out];exact hlt) (by rw [HL'.out];exact hlt) ht.out);generalize hx:ls.getD k []=x at*;generalize hy:ls'.getD k []=y at*;have HX:=hid hx;have HY:=hid hy;clear hx hy;generalize x.length=lx at*;generalize y.length=ly at*;by_cases hxy:x=y
    ·subst hxy
     go_wp2
     go_quiet ((go_at_call 58;exact Calls.quiet_of (Zz2m true B _ _ _ _ _ _ _ _ _ (s1.drewN _) (s2.drewN _) (by omega) (by omega) (decide_eq_true rfl))))
     go_wp2
     go_roundw
     case rel=>exact ⟨k+1,by omega,by go_num,HT.out (by first | trivial | rfl),by obtain ⟨d,e⟩:=hd.out;exact ⟨d+nq,by rw [e,World.drewN_drewN]⟩⟩
     case measure=>simp [intOf];omega
    ·have hne:decide (ls=ls')=false:=by
      simp;rintro rfl
      exact hxy (HX.out.symm.trans HY.out)
     have HN:=hid (hne.symm.trans HR.out);clear hne;go_wp2
     go_quiet ((go_at_call 58;exact Calls.quiet_of (Zz2m false B _ _ _ _ _ _ _ _ _ (s1.drewN _) (s2.drewN _) (by omega) (by omega) (decide_eq_false hxy))))
     go_wp2
     go_ret
     exact ⟨Zz0a HN.out,by obtain ⟨d,e⟩:=hd.out;exact ⟨d+nq,by rw [e,World.drewN_drewN]⟩⟩
   ·have he:decide (ls=ls')=true:=by
     have h1:=ht.out;rw [ZtL (by rw [HL.out];omega),ZtL (by rw [HL'.out];omega)] at h1;simpa using h1
    have HE:=hid (he.symm.trans HR.out);clear he;go_wp2
    go_ret
    exact ⟨Zz0a HE.out,hd.out⟩
 ·have hb:((n:Int) !=(n':Int))=true:=by simp;omega
  have hne:decide (ls=ls')=false:=by
   simp;rintro rfl;exact hlen (HL.out.symm.trans HL'.out)
  have HN:=hid hne;clear hne;go_enter Tryz.func18,Tryz.ntmps18;go_wp2
  go_ret
  exact ⟨Zz0a (HN.out.symm.trans HR.out),0,rfl⟩
theorem Zz67 (l l':List Int) (k:Nat) (h:k < l.length) (h':k < l'.length) (ht:l.take k=l'.take k) (hx:l.getD k 0=l'.getD k 0):l.take (k+1)=l'.take (k+1):=by
 rw [ZtS h,ZtS h',ht];simp [h,h'] at hx
 rw [hx]
theorem Zzdy (B:Nat) (A A':Option Addr) (l l':List Int) (n n' c c':Nat) (w:World) (h:Sl w B 1 A n (l.map iv)) (h':Sl w B 1 A' n' (l'.map iv)) (hnl:n≤9223372036854775807) (hn'l:n'≤9223372036854775807):
  Calls Tryz.prog 99 #[.slice A n c,.slice A' n' c'] w fun e w'=>e= .returned (.bool (decide (l=l')))∧∃ d,w'=w.drewN d:=by
 have HL:=hid (show l.length=n by have:=h.len;simpa using this);have HL':=hid (show l'.length=n' by have:=h'.len;simpa using this);by_cases hlen:n=n'
 ·subst hlen
  have hb:((n:Int) !=(n:Int))=false:=by simp
  go_enter Tryz.func99,Tryz.ntmps99;go_wp2
  go_loopw [13] (fun i wr=>∃ k d:Nat,k≤n∧i= .int .i64 k∧Hid (l.take k=l'.take k)∧wr=w.drewN d) (fun i _=>n - (intOf i).toNat)
  case atStart=>exact ⟨0,0,Nat.zero_le _,rfl,rfl,rfl⟩
  case round=>
   obtain ⟨k,d,hk,rfl,ht,rfl⟩:=hrel;by_cases hlt:k < n
   ·have hlt':(k:Int) < (n:Int):=by omega
    have hk0:(0:Int)≤(k:Int):=by omega
    obtain ⟨b,o,rfl,hb,hc⟩:=h.get hlt (Zz45 l k (by rw [HL.out];exact hlt));obtain ⟨b',o',rfl,hb',hc'⟩:=h'.get hlt (Zz45 l' k (by rw [HL'.out];exact hlt));have HT:=hid (Zz67 l l' k (by rw [HL.out];exact hlt) (by rw [HL'.out];exact hlt) ht.out);generalize hx:l.getD k 0=x at*;generalize hy:l'.getD k 0=y at*;have HX:=hid hx;have HY:=hid hy;clear hx hy;have hiv:True:=trivial;go_wp2
    go_quiet (fail)
    go_wp2
    ·have hne:decide (l=l')=false:=by
      have h9:(x !=y)=true:=by assumption
      have hxy:x≠y:=by simpa using h9
      simp;rintro rfl
      exact hxy (HX.out.symm.trans HY.out)
     go_ret
     exact ⟨Zz0a hne.symm,_,World.drewN_drewN _ _ _⟩
    ·have h9:(x !=y)=false:=by assumption
     have hxy:x=y:=by simpa using h9
     clear h9;go_roundw
     case rel=>exact ⟨k+1,_,by omega,by go_num,HT.out hxy,rfl⟩
     case measure=>simp [intOf];omega
   ·have he:decide (l=l')=true:=by
     have h1:=ht.out;rw [ZtL (by rw [HL.out];omega),ZtL (by rw [HL'.out];omega)] at h1;simpa using h1
    go_wp2
    go_ret
    exact ⟨Zz0a he.symm,_,rfl⟩
 ·have hb:((n:Int) !=(n':Int))=true:=by simp;omega
  have hne:decide (l=l')=false:=by
   simp;rintro rfl;exact hlen (HL.out.symm.trans HL'.out)
  go_enter Tryz.func99,Tryz.ntmps99;go_wp2
  go_ret
  exact ⟨Zz0a hne.symm,0,rfl⟩
theorem Zzbd (r:Bool) (B:Nat) (A A':Option Addr) (l l':List Int) (n n' c c':Nat) (w:World) (h:Sl w B 1 A n (l.map iv)) (h':Sl w B 1 A' n' (l'.map iv)) (hnl:n≤9223372036854775807) (hn'l:n'≤9223372036854775807) (hr:decide (l=l')=r):
  Calls Tryz.prog 99 #[.slice A n c,.slice A' n' c'] w fun e w'=>e= .returned (.bool r)∧∃ d,w'=w.drewN d:=by
 subst hr;exact Zzdy B A A' l l' n n' c c' w h h' hnl hn'l
end Go.Proofs.YtnknjeipfjdjoaaGreatDoor
