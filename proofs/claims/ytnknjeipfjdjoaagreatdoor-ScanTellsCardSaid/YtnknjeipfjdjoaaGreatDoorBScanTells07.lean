/- Keep Sum -/
import Derived.Test.YtnknjeipfjdjoaaGreatDoorProg
import Derived.Deep.LoopGhost
import Derived.Deep.QuietTactic
import Derived.BigQuiet
import Derived.Deep.DeepMust
import Derived.Lib.SlBytesConst
import Derived.Test.YtnknjeipfjdjoaaGreatDoorBScanTells03
set_option maxHeartbeats 8000000
set_option maxRecDepth 20000
set_option linter.unusedSimpArgs false
set_option linter.unusedVariables false
namespace Go.Proofs.YtnknjeipfjdjoaaGreatDoor
open Go.RowKit Wells
theorem Zzi0 (A:Option Addr) (n c n':Nat) (m:Int) (w:World) (h0:0≤m) (hm:m≤9223372036854775807) (hn:n≤9223372036854775807) (hc:n≤c) (hn':n'=min n m.toNat):
  Calls Tryz.prog 10 #[.slice A n c,.int .i64 m] w fun e w'=>e= .returned (.slice A n' c)∧w=w':=by
 obtain ⟨k,rfl⟩:=Int.eq_ofNat_of_zero_le h0;have HN:=hid hn';clear hn';go_enter Tryz.func10,Tryz.ntmps10;go_wp2
 ·go_ret
  exact ⟨Zzf8 (by rw [HN.out,Int.toNat_natCast,Nat.min_eq_right (by omega)]),rfl⟩
 ·go_ret
  exact ⟨Zzf8 (by rw [HN.out,Int.toNat_natCast,Nat.min_eq_left (by omega)]),rfl⟩
theorem Zzeg (l:List Byte) (k:Nat) (h:k < l.length):(l.map bv8)[k]? =some (bv8 (l.getD k 0)):=by
 rw [List.getElem?_map,ZgE h];simp [h]
theorem Zz7o (l l':List Byte) (k:Nat) (h:k < l.length) (h':k < l'.length) (ht:l.take k=l'.take k) (hx:l.getD k 0=l'.getD k 0):l.take (k+1)=l'.take (k+1):=by
 rw [ZtS h,ZtS h',ht];simp [h,h'] at hx
 rw [hx]
theorem Zzhv {x y:Byte} (h:((x.toNat:Int) !=(y.toNat:Int))=true):x≠y:=by rintro rfl;simp at h
theorem Zzi3 {x y:Byte} (h:((x.toNat:Int) !=(y.toNat:Int))=false):x=y:=by
 simp at h
 exact BitVec.eq_of_toNat_eq (by omega)
theorem Zzgx (B:Nat) (A A':Option Addr) (l l':List Byte) (n n' c c':Nat) (w:World) (h:Sl w B 1 A n (l.map bv8)) (h':Sl w B 1 A' n' (l'.map bv8)) (hnl:n≤9223372036854775807) (hn'l:n'≤9223372036854775807):
  Calls Tryz.prog 58 #[.slice A n c,.slice A' n' c'] w fun e w'=>e= .returned (.bool (decide (l=l')))∧∃ d,w'=w.drewN d:=by
 have HL:=hid (show l.length=n by have:=h.len;simpa using this);have HL':=hid (show l'.length=n' by have:=h'.len;simpa using this);by_cases hlen:n=n'
 ·subst hlen
  have hb:((n:Int) !=(n:Int))=false:=by simp
  go_enter Tryz.func58,Tryz.ntmps58;go_wp2
  go_loopw [13] (fun i wr=>∃ k d:Nat,k≤n∧i= .int .i64 k∧Hid (l.take k=l'.take k)∧wr=w.drewN d) (fun i _=>n - (intOf i).toNat)
  case atStart=>exact ⟨0,0,Nat.zero_le _,rfl,rfl,rfl⟩
  case round=>
   obtain ⟨k,d,hk,rfl,ht,rfl⟩:=hrel;by_cases hlt:k < n
   ·have hlt':(k:Int) < (n:Int):=by omega
    have hk0:(0:Int)≤(k:Int):=by omega
    obtain ⟨b,o,rfl,hb,hc⟩:=h.get hlt (Zzeg l k (by rw [HL.out];exact hlt));obtain ⟨b',o',rfl,hb',hc'⟩:=h'.get hlt (Zzeg l' k (by rw [HL'.out];exact hlt));have HT:=hid (Zz7o l l' k (by rw [HL.out];exact hlt) (by rw [HL'.out];exact hlt) ht.out);generalize hx:l.getD k 0=x at*;generalize hy:l'.getD k 0=y at*;have HX:=hid hx;have HY:=hid hy;clear hx hy;unfold bv8 at hc hc';go_wp2
    go_quiet (fail)
    go_wp2
    ·have hne:decide (l=l')=false:=by
      have hxy:=Zzhv (x:=x) (y:=y) (by assumption);simp;rintro rfl
      exact hxy (HX.out.symm.trans HY.out)
     go_ret
     exact ⟨Zz0a hne.symm,_,World.drewN_drewN _ _ _⟩
    ·go_roundw
     case rel=>exact ⟨k+1,_,by omega,by go_num,HT.out (Zzi3 (by assumption)),rfl⟩
     case measure=>simp [intOf];omega
   ·have he:decide (l=l')=true:=by
     have h1:=ht.out;rw [ZtL (by rw [HL.out];omega),ZtL (by rw [HL'.out];omega)] at h1;simpa using h1
    go_wp2
    go_ret
    exact ⟨Zz0a he.symm,_,rfl⟩
 ·have hb:((n:Int) !=(n':Int))=true:=by simp;omega
  have hne:decide (l=l')=false:=by
   simp;rintro rfl;exact hlen (HL.out.symm.trans HL'.out)
  go_enter Tryz.func58,Tryz.ntmps58;go_wp2
  go_ret
  exact ⟨Zz0a hne.symm,0,rfl⟩
theorem Zz2m (r:Bool) (B:Nat) (A A':Option Addr) (l l':List Byte) (n n' c c':Nat) (w:World) (h:Sl w B 1 A n (l.map bv8)) (h':Sl w B 1 A' n' (l'.map bv8)) (hnl:n≤9223372036854775807) (hn'l:n'≤9223372036854775807) (hr:decide (l=l')=r):
  Calls Tryz.prog 58 #[.slice A n c,.slice A' n' c'] w fun e w'=>e= .returned (.bool r)∧∃ d,w'=w.drewN d:=by
 subst hr;exact Zzgx B A A' l l' n n' c c' w h h' hnl hn'l
theorem Zzfb (s:BitVec 32):bits .xor .u32 IntKind.u32.max (s.toNat:Int)=((~~~ s).toNat:Int):=by
 have h:=x32 (~~~ 0#32) s;have e:IntKind.u32.max=((~~~ 0#32:BitVec 32).toNat:Int):=by decide
 rw [e,h];congr 1
theorem Zzhy (B:Nat) (A:Option Addr) (l:List Byte) (c:Nat) (w:World) (h:Sl w B 1 A l.length (l.map bv8)) (hl:l.length≤9223372036854775807):
  Calls Tryz.prog 127 #[.slice A l.length c] w fun e w'=>e= .returned (.int .u32 ((crc l).toNat:Int))∧w=w':=by
 go_enter Tryz.func127,Tryz.ntmps127;go_wp2
 go_loop [3,9] (fun s i=>∃ k:Nat,k≤l.length∧i= .int .i64 k∧s= .int .u32 ((crcS (~~~ 0#32) (l.take k)).toNat:Int)) (fun _ i=>l.length - (intOf i).toNat)
 case atStart=>exact ⟨0,Nat.zero_le _,rfl,rfl⟩
 case round=>
  obtain ⟨k,hk,rfl,rfl⟩:=hrel;generalize hs:crcS (~~~ 0#32) (l.take k)=s;have HS:=hid hs;clear hs;by_cases hlt:k < l.length
  ·obtain ⟨b,o,rfl,hb,hc⟩:=h.at_ (by omega)
   have hck:w.cell? ⟨b,o+k,none⟩=some (.int .u8 ((l.getD k 0).toNat:Int)):=hc k _ (by rw [List.getElem?_map,ZgE hlt];simp [bv8,hlt]);have hbd:=(l.getD k 0).isLt;have hsd:=s.isLt;generalize hx:l.getD k 0=x at*;have HX:=hid hx;clear hx hc h;go_wp2
   go_loop [3,17] (fun s' i=>∃ j:Nat,j≤8∧i= .int .i64 j∧s'= .int .u32 ((tn j (s ^^^ x.setWidth 32)).toNat:Int)) (fun _ i=>8 - (intOf i).toNat)
   case atStart=>exact ⟨0,by omega,rfl,by rw [x32b];rfl⟩
   case round=>
    obtain ⟨j,hj,rfl,rfl⟩:=hrel;generalize ht:tn j (s ^^^ x.setWidth 32)=t;have HT:=hid ht;clear ht;have htd:=t.isLt;go_wp2
    ·go_round
     case rel=>exact ⟨j+1,by omega,by go_num,by rw [Zzi1 t (by assumption),Zz7z,HT.out]⟩
     case measure=>simp [intOf];omega
    ·go_round
     case rel=>exact ⟨j+1,by omega,by go_num,by rw [Zz8x t (by assumption),Zz7z,HT.out]⟩
     case measure=>simp [intOf];omega
    ·have hj8:j=8:=by omega
     go_round
     case rel=>exact ⟨k+1,by omega,by go_num,by rw [Zz8l _ _ _ hlt,HX.out,HS.out,← HT.out,hj8]⟩
     case measure=>simp [intOf];omega
  ·have he:k=l.length:=by omega
   go_wp2
   go_ret
   exact ⟨Zz0z (by rw [Zzfb];unfold crc;rw [← HS.out,he,List.take_length]),rfl⟩
theorem Zzhu (B:Nat) (A:Option Addr) (l:List Byte) (n c:Nat) (w:World) (h:Sl w B 1 A n (l.map bv8)) (hl:n≤9223372036854775807):
  Calls Tryz.prog 127 #[.slice A n c] w fun e w'=>e= .returned (.int .u32 ((crc l).toNat:Int))∧w=w':=by
 have e:l.length=n:=by have:=h.len;simpa using this
 subst e;exact Zzhy B A l c w h hl
theorem Zzbw (B:Nat) (A:Option Addr) (l:List Byte) (c:Nat) (w:World) (h:Sl w B 1 A l.length (l.map bv8)) (hl:l.length≤9223372036854775807):
  Calls Tryz.prog 73 #[.slice A l.length c] w fun e w'=>e= .returned (.int .u32 ((crc l).toNat:Int))∧w=w':=by
 go_enter Tryz.func73,Tryz.ntmps73;go_wp2
 go_loop [3,8] (fun s i=>∃ k:Nat,k≤l.length∧i= .int .i64 k∧s= .int .u32 ((crcS (~~~ 0#32) (l.take k)).toNat:Int)) (fun _ i=>l.length - (intOf i).toNat)
 case atStart=>exact ⟨0,Nat.zero_le _,rfl,rfl⟩
 case round=>
  obtain ⟨k,hk,rfl,rfl⟩:=hrel;generalize hs:crcS (~~~ 0#32) (l.take k)=s;have HS:=hid hs;clear hs;by_cases hlt:k < l.length
  ·obtain ⟨b,o,rfl,hb,hc⟩:=h.at_ (by omega)
   have hck:w.cell? ⟨b,o+k,none⟩=some (.int .u8 ((l.getD k 0).toNat:Int)):=hc k _ (by rw [List.getElem?_map,ZgE hlt];simp [bv8,hlt]);have hbd:=(l.getD k 0).isLt;have hsd:=s.isLt;generalize hx:l.getD k 0=x at*;have HX:=hid hx;clear hx hc h;go_wp2
   go_loop [3,5] (fun s' i=>∃ j:Nat,j≤8∧i= .int .i64 j∧s'= .int .u32 ((tn j (s ^^^ x.setWidth 32)).toNat:Int)) (fun _ i=>8 - (intOf i).toNat)
   case atStart=>exact ⟨0,by omega,rfl,by rw [x32b];rfl⟩
   case round=>
    obtain ⟨j,hj,rfl,rfl⟩:=hrel;generalize ht:tn j (s ^^^ x.setWidth 32)=t;have HT:=hid ht;clear ht;have htd:=t.isLt;go_wp2
    ·go_round
     case rel=>exact ⟨j+1,by omega,by go_num,by rw [Zzi1 t (by assumption),Zz7z,HT.out]⟩
     case measure=>simp [intOf];omega
    ·go_round
     case rel=>exact ⟨j+1,by omega,by go_num,by rw [Zz8x t (by assumption),Zz7z,HT.out]⟩
     case measure=>simp [intOf];omega
    ·have hj8:j=8:=by omega
     go_round
     case rel=>exact ⟨k+1,by omega,by go_num,by rw [Zz8l _ _ _ hlt,HX.out,HS.out,← HT.out,hj8]⟩
     case measure=>simp [intOf];omega
  ·have he:k=l.length:=by omega
   go_wp2
   go_ret
   exact ⟨Zz0z (by rw [Zzfb];unfold crc;rw [← HS.out,he,List.take_length]),rfl⟩
theorem Zzbp (B:Nat) (A:Option Addr) (l:List Byte) (n c:Nat) (w:World) (h:Sl w B 1 A n (l.map bv8)) (hl:n≤9223372036854775807):
  Calls Tryz.prog 73 #[.slice A n c] w fun e w'=>e= .returned (.int .u32 ((crc l).toNat:Int))∧w=w':=by
 have e:l.length=n:=by have:=h.len;simpa using this
 subst e;exact Zzbw B A l c w h hl
end Go.Proofs.YtnknjeipfjdjoaaGreatDoor
