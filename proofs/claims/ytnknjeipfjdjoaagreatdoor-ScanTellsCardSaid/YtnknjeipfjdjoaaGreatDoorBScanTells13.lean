/- MapB Mani4 May Counts StableNil -/
import Derived.Maps.OwnSet
import Derived.WalkLawsBesides
import Derived.Test.YtnknjeipfjdjoaaGreatDoorBScanTells12
set_option maxHeartbeats 8000000
set_option maxRecDepth 20000
set_option linter.unusedSimpArgs false
set_option linter.unusedVariables false
namespace Wells
open Go Go.RowKit
theorem Zz36 {H:Type} {P:Program} {e:TypeId} (he:P.underlying e=some .bool) {v:Value} {z:DataW H×List MemPlace} (h:plainElem P e v=some z):∃ a,v= .bool a∧z=(.lit (.bool a), []):=by
 unfold plainElem at h;rw [he] at h;cases v <;> simp at h
 exact ⟨_,rfl,h.symm⟩
theorem Zz9o {H:Type} {P:Program} {k t e:TypeId} {w:World} {b n:Nat} {D:DataW H} (h:w.ownsMap P k (plainElem P e) b n D) (K:Maps.Keyed P k) (ht:P.underlying t=some (.map k e)) (he:P.underlying e=some .bool) (hz:(zeroValue e).run P w= .ok (.bool false) w)
  {key:Value} {kl:Lit} (hkey:keyOf P k key=some kl):∃ c,(Instr.lookup t (.map (some b)) key false).run P w= .ok (.bool c) w∧D.atKey kl (.lit (.bool false))= .lit (.bool c):=by
 obtain ⟨v,ps,hrun,hv⟩:=h.lookup K ht hz (plainElem_bool he false) hkey;obtain ⟨c,rfl,hc⟩:=Zz36 he hv;simp only [Prod.mk.injEq] at hc;exact ⟨c,hrun,hc.1⟩
theorem Zzhs {es:List Ent} {o:Int} {k:Nat} (hk:k < es.length) (h:(es.getD k default).obj=o):es.all (fun y=> !decide (y.obj=o))=false:=by
 rw [List.all_eq_false];refine ⟨es.getD k default,?_,by rw [decide_eq_true h];simp⟩;rw [ZgD,ZgE hk];exact List.getElem_mem _
theorem Zzg6 {es:List Ent} {o:Int} (h:∀ k,k < es.length→¬ (es.getD k default).obj=o):es.all (fun y=> !decide (y.obj=o))=true:=by
 rw [List.all_eq_true];intro c hc;obtain ⟨k,hk,rfl⟩:=List.getElem_of_mem hc;have:=h k hk
 rw [ZgD,ZgE hk] at this;simpa using this
end Wells
namespace Go.Proofs.YtnknjeipfjdjoaaGreatDoor
open Go.RowKit Wells
theorem Zz4g (y:Ent) (A:Option Addr) (n c:Nat) (gx:Nat) (o:Int) (b:Bool) (w:World) (hx:w.cell? ⟨gx,1,none⟩=some (.int .i64 o)) (hb:decide (y.obj=o)=b):
  Calls Tryz.prog 96 #[y.val (.slice A n c),.pointer (some ⟨gx,0,none⟩)] w fun e w'=>e= .returned (.bool b)∧Below w.heap.size w w':=by
 have HB:=hid hb;have hce:=ECells.new w 61 y (.slice A n c);have hb1:=(Below.refl w.heap.size w).alloc (ZnR _) (entObj 61 y (.slice A n c));have hx1:=Zz00 hb1 hx;obtain ⟨e0,e1,e2,e3⟩:=hce;clear hb hx;unfold Ent.val;go_enter Tryz.func96,Tryz.ntmps96;go_wp2_with fail;go_ret
 exact ⟨Zz0a (by rw [← HB.out];first | rfl | (by_cases hq:y.obj=o <;> simp [hq])),hb1⟩
theorem Zzd3 (B:Nat) (A:Option Addr) (n c:Nat) (ts:List Value) (es:List Ent) (gx:Nat) (o:Int) (b:Bool) (w:World) (h:REs w B A n ts es) (hB:B≤w.heap.size) (hn:n≤9223372036854775807) (hx:w.cell? ⟨gx,1,none⟩=some (.int .i64 o)) (hb:es.all (fun y=> !decide (y.obj=o))=b):
  Calls Tryz.prog 112 #[.slice A n c,.func (Fn.func 96) #[] #[.pointer (some ⟨gx,0,none⟩)]] w fun e w'=>(∃ r:Int,e= .returned (.int .i64 r)∧decide (0≤r)= !b)∧Below w.heap.size w w':=by
 have HL:=hid h.len;have HB:=hid hb;have H:=hid h;have HX:=hid hx;clear hb h hx;go_enter Tryz.func112,Tryz.ntmps112;go_wp2_with fail;go_loopw [8] (fun i wr=>∃ k:Nat,k≤n∧i= .int .i64 k∧Below w.heap.size w wr∧Hid (∀ j,j < k→¬ (es.getD j default).obj=o)) (fun i _=>n - (intOf i).toNat)
 case atStart=>exact ⟨0,Nat.zero_le _,rfl,Below.refl _ _,hid (fun j hj=>absurd hj (by omega))⟩
 case round=>
  obtain ⟨k,hk,rfl,hbr,HK⟩:=hrel;have hzr:=hbr.size;by_cases hlt:k < n
  ·obtain ⟨bb,o',A',c',rfl,hbb,e0,e1,e2,e3,hc1,hc2,hsl⟩:=(H.out.below (hbr.mono hB)).get hlt
   have hxr:wr.cell? ⟨gx,1,none⟩=some (.int .i64 o):=(hbr.cell (p:=⟨gx,1,none⟩) (World.block_lt_of_cell? w _ HX.out)).trans HX.out;obtain ⟨x,hx⟩:∃ x,es.getD k default=x:=⟨_,rfl⟩;have HXX:=hid hx;rw [hx] at e0 e1 e2 e3 hc1 hsl;have HXR:=hid hxr;clear hx hxr hsl hc1;by_cases hq:x.obj=o
   ·have hno:b=false:=by rw [← HB.out];exact Zzhs (k:=k) (by rw [HL.out];exact hlt) (by rw [HXX.out];exact hq)
    subst hno;have HQ:=hid (decide_eq_true hq);clear hq;go_wp2_with fail;refine (Zz4g x A' x.tries.length c' gx o true wr HXR.out HQ.out).mono ?_;rintro e w3 ⟨rfl,hb3⟩;have hb4:=hbr.trans (hb3.mono hzr);go_wp2_with fail;go_ret
    exact ⟨⟨_,rfl,by simp⟩,hb4⟩
   ·have HQ:=hid (decide_eq_false hq)
    have HQ2:=hid hq;clear hq;go_wp2_with fail;refine (Zz4g x A' x.tries.length c' gx o false wr HXR.out HQ.out).mono ?_;rintro e w3 ⟨rfl,hb3⟩;have hb4:=hbr.trans (hb3.mono hzr);go_wp2_with fail;go_roundw
    case rel=>exact ⟨k+1,by omega,by go_num,hb4,hid (fun j hj=>by
     rcases Nat.lt_or_ge j k with h | h
     ·exact HK.out j h
     ·have e:j=k:=by omega
      rw [e,HXX.out];exact HQ2.out)⟩
    case measure=>simp [intOf];omega
  ·obtain rfl:k=n:=by omega
   have hyes:b=true:=by rw [← HB.out];exact Zzg6 (fun j hj=>HK.out j (by rw [HL.out] at hj;exact hj))
   subst hyes;go_wp2_with fail;go_ret
   exact ⟨⟨_,rfl,by simp⟩,hbr⟩
theorem Zz6x (B:Nat) (A:Option Addr) (n c:Nat) (ts:List Value) (es:List Ent) (gx:Nat) (o:Int) (b:Bool) (w:World) (h:REs w B A n ts es) (hB:B≤w.heap.size) (hn:n≤9223372036854775807) (hx:w.cell? ⟨gx,1,none⟩=some (.int .i64 o)) (hb:es.all (fun y=> !decide (y.obj=o))=b):
  Calls Tryz.prog 85 #[.slice A n c,.func (Fn.func 96) #[] #[.pointer (some ⟨gx,0,none⟩)]] w fun e w'=>e= .returned (.bool (!b))∧Below w.heap.size w w':=by
 have HX:=hid hx;clear hx;go_enter Tryz.func85,Tryz.ntmps85;go_wp2_with fail;refine (Zzd3 B A n c ts es gx o b w h hB hn HX.out hb).mono ?_;rintro e w3 ⟨⟨r,rfl,hr⟩,hb3⟩;have HR:=hid hr;clear hr;go_wp2_with fail;go_ret
 exact ⟨Zz0a HR.out,hb3⟩
end Go.Proofs.YtnknjeipfjdjoaaGreatDoor
namespace Wells
open Go Go.RowKit
theorem Zz2e:∀ (a b:List UInt8),(!Op.bytesLess a b)=(Op.bytesLess b a || b==a)
 | [], []=>rfl
 | [],_::_=>rfl
 | _::_, []=>rfl
 | x::a,y::b=>by
  have ih:=Zz2e a b;unfold Op.bytesLess;have hb:(y::b==x::a)=(y==x && b==a):=rfl;rw [hb];rcases Nat.lt_trichotomy x.toNat y.toNat with h | h | h
  ·have h1:x < y:=UInt8.lt_iff_toNat_lt.2 h
   have h2:¬ y < x:=fun h3=>by have:=UInt8.lt_iff_toNat_lt.1 h3;omega
   have h3:(y==x)=false:=by rw [beq_eq_false_iff_ne];intro e;rw [e] at h;omega
   simp [h1,h2,h3]
  ·have e:x=y:=UInt8.toNat_inj.1 h
   subst e;have h2:¬ x < x:=fun h3=>by have:=UInt8.lt_iff_toNat_lt.1 h3;omega
   simp [h2,ih]
  ·have h1:y < x:=UInt8.lt_iff_toNat_lt.2 h
   have h2:¬ x < y:=fun h3=>by have:=UInt8.lt_iff_toNat_lt.1 h3;omega
   have h3:(x==y)=false:=by rw [beq_eq_false_iff_ne];intro e;rw [e] at h;omega
   simp [h1,h2,h3]
end Wells
namespace Go.Proofs.YtnknjeipfjdjoaaGreatDoor
open Go.RowKit Wells
theorem Zzfw (m:Mani) (B:Nat) (Ad Ao:Option Addr) (nd cd no co:Nat) (ts:List Value) (b:Bool) (w:World) (h:RM w B m Ad nd cd Ao no co ts) (hB:B≤w.heap.size) (h64:M64 m) (hnm:∀ e∈m.objs,e.name.length≤1048576) (hb:m.may=b):
  Calls Tryz.prog 53 #[m.val (.slice Ad nd cd) (.slice Ao no co)] w fun e w'=>e= .returned (.bool b)∧Below w.heap.size w w':=by
 have HB:=hid hb;obtain ⟨b1,hb1⟩:∃ q,decide (1≤m.seq∧m.seq≤2147483647)=q:=⟨_,rfl⟩;obtain ⟨b2,hb2⟩:∃ q,decide (0≤m.next∧m.next≤16777216)=q:=⟨_,rfl⟩;obtain ⟨b3,hb3⟩:∃ q,m.P.may=q:=⟨_,rfl⟩;obtain ⟨b4,hb4⟩:∃ q,decide (0≤m.extra∧m.extra≤16)=q:=⟨_,rfl⟩;obtain ⟨b5,hb5⟩:∃ q,riseB m.drives 63=q:=⟨_,rfl⟩;have hall:b=((b1 && (b2 && (b3 && b4))) && (b5 && (decide (no≤12) && (List.range no).all (objStep m)))):=by
  rw [← hb];unfold Mani.may preB;rw [hb1,hb2,hb3,hb4,hb5,h.o.len]
 have HA:=hid hall;have H1:=hid hb1;have H2:=hid hb2;have H3:=hid hb3;have H4:=hid hb4;have H5':=hid hb5;have HR:=hid h;have H64:=hid h64;have HNM:=hid hnm;have hdl:=h.dl;have hdc:=h.dc;have hoc:=h.oc;have hcm:=MCells.new w 28 m (.slice Ad nd cd) (.slice Ao no co);have hb01:Below w.heap.size w (w.alloc (maniObj 28 m (.slice Ad nd cd) (.slice Ao no co))):=(Below.refl _ _).alloc (ZnR _) _;obtain ⟨P,hPm⟩:∃ P,m.P=P:=⟨_,rfl⟩;have HPM:=hid hPm;have HVP:=hid (show Par.val P= .agg #[.int .i64 m.P.K,.int .i64 m.P.H,.int .i64 m.P.S] by rw [← hPm];rfl);clear hall hb1 hb2 hb3 hb4 hb5 hb h h64 hnm hPm;unfold Mani.val;go_enter Tryz.func53,Tryz.ntmps53;obtain ⟨c0,c1,c2,c3,c4,c5,c6,c7⟩:=hcm;go_wp2_with fail
 generalize w.alloc (maniObj 28 m (.slice Ad nd cd) (.slice Ao no co))=w2 at*;have hz2:=hb01.size;refine (Zz0s m.seq 1 2147483647 b1 w2 H1.out).mono ?_;rintro e w4 ⟨rfl,hw4⟩;rw [← hw4];clear hw4 w4;cases b1 with
 | false=>
  have hb:b=false:=by rw [HA.out];rfl
  subst hb;go_wp2_with fail;go_ret
  exact ⟨rfl,hb01⟩
 | true=>
 go_wp2_with fail;refine (Zz0s m.next 0 16777216 b2 w2 H2.out).mono ?_;rintro e w4 ⟨rfl,hw4⟩;rw [← hw4];clear hw4 w4;cases b2 with
 | false=>
  have hb:b=false:=by rw [HA.out];rfl
  subst hb;go_wp2_with fail;go_ret
  exact ⟨rfl,hb01⟩
 | true=>
 go_wp2_with fail;rw [← HVP.out];refine (Zz1m P b3 w2 (by rw [← HPM.out];exact H3.out)).mono ?_;rintro e w4 ⟨rfl,hbq⟩;replace c0:=Zz00 hbq c0;replace c1:=Zz00 hbq c1;replace c2:=Zz00 hbq c2;replace c3:=Zz00 hbq c3;replace c4:=Zz00 hbq c4;replace c5:=Zz00 hbq c5;replace c6:=Zz00 hbq c6;replace c7:=Zz00 hbq c7;have hb04:=hb01.trans (hbq.mono hz2);have hz4:=hb04.size;clear hbq hb01 hz2;cases b3 with
 | false=>
  have hb:b=false:=by rw [HA.out];rfl
  subst hb;go_wp2_with fail;go_ret
  exact ⟨rfl,hb04⟩
 | true=>
 go_wp2_with fail;refine (Zz0s m.extra 0 16 b4 w4 H4.out).mono ?_;rintro e w5 ⟨rfl,hw5⟩;rw [← hw5];clear hw5 w5;cases b4 with
 | false=>
  have hb:b=false:=by rw [HA.out];rfl
  subst hb;go_wp2_with fail;go_ret
  exact ⟨rfl,hb04⟩
 | true=>
 have hrm:=HR.out.below (hb04.mono hB);have hrd:=hrm.d;go_wp2_with fail;refine (Zzg8 B Ad m.drives nd cd 63 b5 w4 hrd (by omega) H5'.out).mono ?_;rintro e w5 ⟨rfl,dd,rfl⟩;have hbq:=Zz01 (Below.refl w4.heap.size w4) dd;replace c0:=Zz00 hbq c0;replace c1:=Zz00 hbq c1;replace c2:=Zz00 hbq c2;replace c3:=Zz00 hbq c3;replace c4:=Zz00 hbq c4;replace c5:=Zz00 hbq c5;replace c6:=Zz00 hbq c6;replace c7:=Zz00 hbq c7;have hb05:=hb04.trans (hbq.mono hz4);have hz5:=hb05.size;clear hbq hb04 hz4 hrd hrm;generalize w4.drewN dd=w5 at*;cases b5 with
 | false=>
  have hb:b=false:=by rw [HA.out];rfl
  subst hb;go_wp2_with fail;go_ret
  exact ⟨rfl,hb05⟩
 | true=>
 by_cases hno:12 < no
 ·have hb:b=false:=by rw [HA.out,decide_eq_false (show ¬ no≤12 by omega)];rfl
  subst hb;go_wp2_with fail;go_ret
  exact ⟨rfl,hb05⟩
 have hb:b=(List.range no).all (objStep m):=by rw [HA.out,decide_eq_true (show no≤12 by omega)];rfl
 have HBB:=hid hb;have hpre:=H2.out;rw [decide_eq_true_eq] at hpre;have HPRE:=hid hpre;clear hb hpre;go_wp2_with fail;go_loopw [40] (fun i wr=>∃ k:Nat,k≤no∧i= .int .i64 k∧Below w5.heap.size w5 wr∧Hid (∀ j,j < k→objStep m j=true)) (fun i _=>no - (intOf i).toNat)
 case atStart=>exact ⟨0,Nat.zero_le _,rfl,Below.refl _ _,hid (fun j hj=>absurd hj (by omega))⟩
 case round=>
  obtain ⟨k,hk,rfl,hbr,HK⟩:=hrel;have hzr:=hbr.size;have hb0r:=hb05.trans (hbr.mono hz5);have hz0r:=hb0r.size;by_cases hlt:k < no
  ·have hrm:=HR.out.below (hb0r.mono hB)
   have hrs:=hrm.o;obtain ⟨bb,o,A',c',rfl,hbb,e0,e1,e2,e3,hc1,hc2,hsl⟩:=hrs.get hlt;have hpv:0 < k→wr.cell? ⟨bb,o+(k - 1)*4,none⟩=some (.string (strB (entAt m (k - 1)).name)):=fun h0=>by
    obtain ⟨b2,o2,_,_,e,_,h2,_⟩:=hrs.get (k:=k - 1) (by omega);injection e with e;injection e with e1 e2;subst e1 e2;exact h2
   have hmem:m.objs.getD k default∈m.objs:=by
    have:k < m.objs.length:=by rw [hrs.len];exact hlt
    rw [ZgD,ZgE this];exact List.getElem_mem _
   have hnmx:=HNM.out _ hmem;have hx64:=H64.out.objs _ hmem;have htk:=hrs.take hk;obtain ⟨x,hx⟩:∃ x,m.objs.getD k default=x:=⟨_,rfl⟩;have HX:=hid (show entAt m k=x from hx);rw [hx] at e0 e1 e2 e3 hc1 hsl hnmx hx64;obtain ⟨nt,hnt⟩:∃ n,x.tries.length=n:=⟨_,rfl⟩;rw [hnt] at e3 hc1 hsl;have HNT:=hid hnt;have HSL:=hid hsl;obtain ⟨y,hy⟩:∃ y,(entAt m (k - 1)).name=y:=⟨_,rfl⟩;have HY:=hid hy;rw [hy] at hpv;obtain ⟨p1,hp1⟩:∃ q,entB m x=q:=⟨_,rfl⟩;have HP1:=hid hp1;obtain ⟨p3,hp3⟩:∃ q,(m.objs.take k).all (fun y=> !decide (y.obj=x.obj))=q:=⟨_,rfl⟩;have HP3:=hid hp3;have hst:objStep m k=(p1 && ((decide (k=0) || lessS y x.name) && p3)):=by unfold objStep;rw [HX.out,hp1,HY.out,hp3]
   have HST:=hid hst;replace c0:=(hbr.cell (p:=⟨w.heap.size,0,none⟩) (World.block_lt_of_cell? w5 _ c0)).trans c0;replace c1:=(hbr.cell (p:=⟨w.heap.size,1,none⟩) (World.block_lt_of_cell? w5 _ c1)).trans c1;replace c2:=(hbr.cell (p:=⟨w.heap.size,2,none⟩) (World.block_lt_of_cell? w5 _ c2)).trans c2;replace c3:=(hbr.cell (p:=⟨w.heap.size,3,none⟩) (World.block_lt_of_cell? w5 _ c3)).trans c3;replace c4:=(hbr.cell (p:=⟨w.heap.size,4,none⟩) (World.block_lt_of_cell? w5 _ c4)).trans c4;replace c5:=(hbr.cell (p:=⟨w.heap.size,5,none⟩) (World.block_lt_of_cell? w5 _ c5)).trans c5;replace c6:=(hbr.cell (p:=⟨w.heap.size,6,none⟩) (World.block_lt_of_cell? w5 _ c6)).trans c6
   replace c7:=(hbr.cell (p:=⟨w.heap.size,7,none⟩) (World.block_lt_of_cell? w5 _ c7)).trans c7;have hce:=ECells.new wr 61 x (.slice A' nt c');have hbx:=(Below.refl wr.heap.size wr).alloc (ZnR _) (entObj 61 x (.slice A' nt c'));obtain ⟨f0,f1,f2,f3⟩:=hce;have hzx:=hbx.size;have hpvx:=fun h0=>Zz00 hbx (hpv h0)
   have HTK:=hid ((htk.below (hbx.mono (ZnT hB hz0r))));have HNX:=hid hnmx;have HX64:=hid hx64;clear hst hp1 hp3 hx hnt hsl hnmx hx64 hrs hrm hmem htk hpv hy;go_wp2_with fail;generalize wr.alloc (entObj 61 x (.slice A' nt c'))=wx at*;replace c0:=Zz00 hbx c0;replace c1:=Zz00 hbx c1;replace c2:=Zz00 hbx c2;replace c3:=Zz00 hbx c3;replace c4:=Zz00 hbx c4;replace c5:=Zz00 hbx c5;replace c6:=Zz00 hbx c6;replace c7:=Zz00 hbx c7;have hbxx:=hbx;have hb0x:=hb0r.trans (hbx.mono hz0r);have hz0x:=hb0x.size;have hsx:=(HSL.out.below (hbx.mono (ZnT hB hz0r)));have HSX:=hid hsx
   have HENT:=hid (fun (b':Bool) (hb':entB m x=b') (w':World) (hbl:Below wx.heap.size wx w')=>Zzeq m x B Ad (some ⟨bb,o,none⟩) A' nd cd no co nt c' b' w' (HSX.out.below (hbl.mono (ZnT hB hz0x))) (ZnT (ZnT hB hz0x) hbl.size) HNT.out (by omega) HNX.out H3.out HPRE.out HX64.out.2.1 hb');unfold Mani.val Ent.val at HENT;rw [HNT.out] at*;clear hsx e0 e1 e2 e3 hbx;cases p1 with
   | false=>
    have hb:b=false:=by rw [HBB.out];exact Zz0l hlt (by rw [HST.out,Bool.false_and])
    subst hb;clear hpvx
    refine Ord.begin (S:=(fun w'=>w'.cell? ⟨w.heap.size,0,none⟩=some (.int .i64 m.seq)∧w'.cell? ⟨w.heap.size,1,none⟩=some (.int .i64 m.next)∧w'.cell? ⟨w.heap.size,2,none⟩=some (.int .i64 m.P.K)∧w'.cell? ⟨w.heap.size,3,none⟩=some (.int .i64 m.P.H)∧w'.cell? ⟨w.heap.size,4,none⟩=some (.int .i64 m.P.S)∧w'.cell? ⟨w.heap.size,5,none⟩=some (.int .i64 m.extra)∧w'.cell? ⟨w.heap.size,6,none⟩=some (.slice Ad nd cd)∧w'.cell? ⟨w.heap.size,7,none⟩=some (.slice (some ⟨bb,o,none⟩) no co)∧w'.cell? ⟨wr.heap.size,0,none⟩=some (.string (strB x.name))∧w'.cell? ⟨wr.heap.size,1,none⟩=some (.int .i64 x.obj)∧w'.cell? ⟨wr.heap.size,2,none⟩=some (.int .i64 x.len)∧w'.cell? ⟨wr.heap.size,3,none⟩=some (.slice A' nt c')∧Below wx.heap.size wx w')) [0,1,2,3,4,5,6,7,8,9,10,11,12,13,14,15,16,17,18,19] (by kernel_rfl) (H12.drew ⟨c0,c1,c2,c3,c4,c5,c6,c7,f0,f1,f2,f3,Below.refl _ _⟩) (fun hS=> ?_)
    iterate 2 (refine Ord.yV hS ?_;try simp only [bS,bN,bA,b0,b1])
    refine Ord.gA fun K hK=> ?_
    have hh:=H12.below hS;go_simp;go_at_call 95;refine (HENT.out false HP1.out _ hh).mono ?_;rintro e w' ⟨rfl,hbb⟩;go_wp2_with fail;refine hK.out _ _ (H12.keep hbb hS) (fun hS2=> ?_);clear hh;clear hK K hS;have hS:=hS2;clear hS2;try simp only [bS,bN,bA,b0,b1]
    iterate 2 (refine Ord.yV hS ?_;try simp only [bS,bN,bA,b0,b1])
    iterate 14 (refine Ord.nA hS ?_;try simp only [bS,bN,bA,b0,b1])
    (refine Ord.yV hS ?_;try simp only [bS,bN,bA,b0,b1]);refine Ord.done (by kernel_rfl) ?_;have hhc:=hS;have hh:=H12.below hS;clear hS;have hbe:=hb0x.trans (hh.mono hz0x);clear c0 c1 c2 c3 c4 c5 c6 c7 f0 f1 f2 f3;clear hhc;go_wp2_with fail;go_ret
    exact ⟨rfl,hbe⟩
   | true=>
   by_cases hk0:k=0
   ·subst hk0
    clear hpvx
    refine Ord.begin (S:=(fun w'=>w'.cell? ⟨w.heap.size,0,none⟩=some (.int .i64 m.seq)∧w'.cell? ⟨w.heap.size,1,none⟩=some (.int .i64 m.next)∧w'.cell? ⟨w.heap.size,2,none⟩=some (.int .i64 m.P.K)∧w'.cell? ⟨w.heap.size,3,none⟩=some (.int .i64 m.P.H)∧w'.cell? ⟨w.heap.size,4,none⟩=some (.int .i64 m.P.S)∧w'.cell? ⟨w.heap.size,5,none⟩=some (.int .i64 m.extra)∧w'.cell? ⟨w.heap.size,6,none⟩=some (.slice Ad nd cd)∧w'.cell? ⟨w.heap.size,7,none⟩=some (.slice (some ⟨bb,o,none⟩) no co)∧w'.cell? ⟨wr.heap.size,0,none⟩=some (.string (strB x.name))∧w'.cell? ⟨wr.heap.size,1,none⟩=some (.int .i64 x.obj)∧w'.cell? ⟨wr.heap.size,2,none⟩=some (.int .i64 x.len)∧w'.cell? ⟨wr.heap.size,3,none⟩=some (.slice A' nt c')∧Below wx.heap.size wx w')) [0,1,2,3,4,5,6,7,8,9,10,11,12,13,14,15,16,17,18,19] (by kernel_rfl) (H12.drew ⟨c0,c1,c2,c3,c4,c5,c6,c7,f0,f1,f2,f3,Below.refl _ _⟩) (fun hS=> ?_)
    iterate 2 (refine Ord.yV hS ?_;try simp only [bS,bN,bA,b0,b1])
    refine Ord.gA fun K hK=> ?_
    have hh:=H12.below hS;go_simp;go_at_call 95;refine (HENT.out true HP1.out _ hh).mono ?_;rintro e w' ⟨rfl,hbb⟩;go_wp2_with fail;refine hK.out _ _ (H12.keep hbb hS) (fun hS2=> ?_);clear hh;clear hK K hS;have hS:=hS2;clear hS2;try simp only [bS,bN,bA,b0,b1]
    iterate 5 (refine Ord.yV hS ?_;try simp only [bS,bN,bA,b0,b1])
    iterate 10 (refine Ord.nA hS ?_;try simp only [bS,bN,bA,b0,b1])
    iterate 2 (refine Ord.yV hS ?_;try simp only [bS,bN,bA,b0,b1])
    refine Ord.done (by kernel_rfl) ?_;have hhc:=hS;have hh:=H12.below hS;clear hS;have hbe:=hb0x.trans (hh.mono hz0x);clear c0 c1 c2 c3 c4 c5 c6 c7 f0 f1 f2 f3;obtain ⟨q0,q1,q2,q3,q4,q5,q6,q7,q8,q9,q10,q11,_⟩:=hhc;try dsimp only at q0 q1 q2 q3 q4 q5 q6 q7 q8 q9 q10 q11
    have htk:=HTK.out.below (hh.mono (ZnT hB hz0x));have hze:=hbe.size;go_wp2_with fail;refine (Zz6x wx.heap.size (some ⟨bb,o,none⟩) 0 co (ts.take 0) (m.objs.take 0) wr.heap.size x.obj p3 _ (htk.mono (ZnT hB hz0x)) hh.size (by omega) (by assumption) HP3.out).mono ?_;rintro e w6 ⟨rfl,hb6⟩;have hb06:=hbe.trans (hb6.mono hze);have hb56:=hbr.trans (((hbxx.trans (hh.mono hzx)).trans (hb6.mono (ZnT hzx hh.size))).mono hzr);cases p3 with
    | false=>
     have hb:b=false:=by rw [HBB.out];exact Zz0l hlt (by rw [HST.out];simp)
     subst hb;go_wp2_with fail;go_ret
     exact ⟨rfl,hb06⟩
    | true=>
     have hs:objStep m 0=true:=by rw [HST.out];rfl
     have HS:=hid hs;clear hs;go_wp2_with fail;go_roundw
     case rel=>exact ⟨0+1,by omega,by first | rfl | go_num,hb56,hid (fun j hj=>by
      rcases Nat.lt_or_ge j 0 with h | h
      ·exact HK.out j h
      ·have e:j=0:=by omega
       rw [e];exact HS.out)⟩
     case measure=>simp [intOf];omega
   ·have hpv':=hpvx (by omega)
    have hk1:(0:Int) < (k:Int):=by omega
    have hk1n:0 < k:=by omega
    have hk2:(0:Int)≤(k:Int) - 1:=by omega
    have hwk:IntKind.i64.wrap ((k:Int) - 1)=((k - 1:Nat):Int):=by rw [IntKind.wrap_i64];omega
    have hk4:(0:Int)≤((k - 1:Nat):Int):=by omega
    have hk5:((k - 1:Nat):Int) < (no:Int):=by omega
    clear hpvx;obtain ⟨ls,hls⟩:∃ q,lessS y x.name=q:=⟨_,rfl⟩;have hlS:(Op.bytesLess (strB y).toList (strB x.name).toList)=ls:=hls;have HLS:=hid hls;clear hls;cases ls with
    | false=>
     have hb:b=false:=by rw [HBB.out];exact Zz0l hlt (by rw [HST.out,HLS.out];simp [hk0])
     subst hb
     refine Ord.begin (S:=(fun w'=>w'.cell? ⟨w.heap.size,0,none⟩=some (.int .i64 m.seq)∧w'.cell? ⟨w.heap.size,1,none⟩=some (.int .i64 m.next)∧w'.cell? ⟨w.heap.size,2,none⟩=some (.int .i64 m.P.K)∧w'.cell? ⟨w.heap.size,3,none⟩=some (.int .i64 m.P.H)∧w'.cell? ⟨w.heap.size,4,none⟩=some (.int .i64 m.P.S)∧w'.cell? ⟨w.heap.size,5,none⟩=some (.int .i64 m.extra)∧w'.cell? ⟨w.heap.size,6,none⟩=some (.slice Ad nd cd)∧w'.cell? ⟨w.heap.size,7,none⟩=some (.slice (some ⟨bb,o,none⟩) no co)∧w'.cell? ⟨wr.heap.size,0,none⟩=some (.string (strB x.name))∧w'.cell? ⟨wr.heap.size,1,none⟩=some (.int .i64 x.obj)∧w'.cell? ⟨wr.heap.size,2,none⟩=some (.int .i64 x.len)∧w'.cell? ⟨wr.heap.size,3,none⟩=some (.slice A' nt c')∧w'.cell? ⟨bb,o+(k - 1)*4,none⟩=some (.string (strB y))∧Below wx.heap.size wx w')) [0,1,2,3,4,5,6,7,8,9,10,11,12,13,14,15,16,17,18,19] (by kernel_rfl) (H13.drew ⟨c0,c1,c2,c3,c4,c5,c6,c7,f0,f1,f2,f3,hpv',Below.refl _ _⟩) (fun hS=> ?_)
     iterate 2 (refine Ord.yV hS ?_;try simp only [bS,bN,bA,b0,b1])
     refine Ord.gA fun K hK=> ?_
     have hh:=H13.below hS;go_simp;go_at_call 95;refine (HENT.out true HP1.out _ hh).mono ?_;rintro e w' ⟨rfl,hbb⟩;go_wp2_with fail;refine hK.out _ _ (H13.keep hbb hS) (fun hS2=> ?_);clear hh;clear hK K hS;have hS:=hS2;clear hS2;try simp only [bS,bN,bA,b0,b1]
     iterate 17 (refine Ord.yV hS ?_;try simp only [bS,bN,bA,b0,b1])
     refine Ord.done (by kernel_rfl) ?_;have hhc:=hS;have hh:=H13.below hS;clear hS;have hbe:=hb0x.trans (hh.mono hz0x);clear c0 c1 c2 c3 c4 c5 c6 c7 f0 f1 f2 f3 hpv';clear hwk;clear hhc;go_wp2_with fail;go_ret
     exact ⟨rfl,hbe⟩
    | true=>
     refine Ord.begin (S:=(fun w'=>w'.cell? ⟨w.heap.size,0,none⟩=some (.int .i64 m.seq)∧w'.cell? ⟨w.heap.size,1,none⟩=some (.int .i64 m.next)∧w'.cell? ⟨w.heap.size,2,none⟩=some (.int .i64 m.P.K)∧w'.cell? ⟨w.heap.size,3,none⟩=some (.int .i64 m.P.H)∧w'.cell? ⟨w.heap.size,4,none⟩=some (.int .i64 m.P.S)∧w'.cell? ⟨w.heap.size,5,none⟩=some (.int .i64 m.extra)∧w'.cell? ⟨w.heap.size,6,none⟩=some (.slice Ad nd cd)∧w'.cell? ⟨w.heap.size,7,none⟩=some (.slice (some ⟨bb,o,none⟩) no co)∧w'.cell? ⟨wr.heap.size,0,none⟩=some (.string (strB x.name))∧w'.cell? ⟨wr.heap.size,1,none⟩=some (.int .i64 x.obj)∧w'.cell? ⟨wr.heap.size,2,none⟩=some (.int .i64 x.len)∧w'.cell? ⟨wr.heap.size,3,none⟩=some (.slice A' nt c')∧w'.cell? ⟨bb,o+(k - 1)*4,none⟩=some (.string (strB y))∧Below wx.heap.size wx w')) [0,1,2,3,4,5,6,7,8,9,10,11,12,13,14,15,16,17,18,19] (by kernel_rfl) (H13.drew ⟨c0,c1,c2,c3,c4,c5,c6,c7,f0,f1,f2,f3,hpv',Below.refl _ _⟩) (fun hS=> ?_)
     iterate 2 (refine Ord.yV hS ?_;try simp only [bS,bN,bA,b0,b1])
     refine Ord.gA fun K hK=> ?_
     have hh:=H13.below hS;go_simp;go_at_call 95;refine (HENT.out true HP1.out _ hh).mono ?_;rintro e w' ⟨rfl,hbb⟩;go_wp2_with fail;refine hK.out _ _ (H13.keep hbb hS) (fun hS2=> ?_);clear hh;clear hK K hS;have hS:=hS2;clear hS2;try simp only [bS,bN,bA,b0,b1]
     iterate 17 (refine Ord.yV hS ?_;try simp only [bS,bN,bA,b0,b1])
     refine Ord.done (by kernel_rfl) ?_;have hhc:=hS;have hh:=H13.below hS;clear hS;have hbe:=hb0x.trans (hh.mono hz0x);clear c0 c1 c2 c3 c4 c5 c6 c7 f0 f1 f2 f3 hpv';clear hwk;obtain ⟨q0,q1,q2,q3,q4,q5,q6,q7,q8,q9,q10,q11,q12,_⟩:=hhc;try dsimp only at q0 q1 q2 q3 q4 q5 q6 q7 q8 q9 q10 q11 q12
     have htk:=HTK.out.below (hh.mono (ZnT hB hz0x));have hze:=hbe.size;go_wp2_with fail;refine (Zz6x wx.heap.size (some ⟨bb,o,none⟩) k co (ts.take k) (m.objs.take k) wr.heap.size x.obj p3 _ (htk.mono (ZnT hB hz0x)) hh.size (by omega) (by assumption) HP3.out).mono ?_;rintro e w6 ⟨rfl,hb6⟩;have hb06:=hbe.trans (hb6.mono hze);have hb56:=hbr.trans (((hbxx.trans (hh.mono hzx)).trans (hb6.mono (ZnT hzx hh.size))).mono hzr);cases p3 with
     | false=>
      have hb:b=false:=by rw [HBB.out];exact Zz0l hlt (by rw [HST.out];simp)
      subst hb;go_wp2_with fail;go_ret
      exact ⟨rfl,hb06⟩
     | true=>
      have hs:objStep m k=true:=by rw [HST.out];rw [HLS.out];simp
      have HS:=hid hs;clear hs;go_wp2_with fail;go_roundw
      case rel=>exact ⟨k+1,by omega,by first | rfl | go_num,hb56,hid (fun j hj=>by
       rcases Nat.lt_or_ge j k with h | h
       ·exact HK.out j h
       ·have e:j=k:=by omega
        rw [e];exact HS.out)⟩
      case measure=>simp [intOf];omega
  ·obtain rfl:k=no:=by omega
   have hyes:b=true:=by rw [HBB.out];exact Zz0y (fun j hj=>HK.out j hj)
   subst hyes;go_wp2_with fail;go_ret
   exact ⟨rfl,hb0r⟩
end Go.Proofs.YtnknjeipfjdjoaaGreatDoor
namespace Wells
open Go Go.RowKit
def cntE (r:Rec) (y:Ent):Bool:=decide (y.obj=r.O) && (decide (r.B < (y.tries.length:Int)) && decide (r.S=seedL r.O r.B (y.tries.getD r.B.toNat 0)))
def countsM (m:Mani) (r:Rec):Bool:=r.may && (decide (r.P=m.P) && m.objs.any (cntE r))
theorem Zzfn {a b:Par} (h1:a.K=b.K) (h2:a.H=b.H) (h3:a.S=b.S):a=b:=by
 cases a;cases b;simp only at h1 h2 h3;rw [h1,h2,h3]
end Wells
namespace Go.Proofs.YtnknjeipfjdjoaaGreatDoor
open Go.RowKit Wells
theorem Zzc7 (r:Rec) (y:Ent) (A Ar:Option Addr) (n c nr cr gr B:Nat) (b:Bool) (w:World) (hr:Row w gr 73 [.int .i64 r.O,.int .i64 r.B,.int .i64 r.I,.int .i64 r.P.K,.int .i64 r.P.H,.int .i64 r.P.S,.int .u32 (r.S.toNat:Int),.slice Ar nr cr])
  (hs:Sl w B 1 A n (y.tries.map iv)) (hB:B≤w.heap.size) (hn:y.tries.length=n) (hb0:0≤r.B) (hnb:n≤9223372036854775807) (hb:cntE r y=b):
  Calls Tryz.prog 86 #[y.val (.slice A n c),.pointer (some ⟨gr,0,none⟩)] w fun e w'=>e= .returned (.bool b)∧Below w.heap.size w w':=by
 have HB:=hid hb;have hce:=ECells.new w 61 y (.slice A n c);have hb1:=(Below.refl w.heap.size w).alloc (ZnR _) (entObj 61 y (.slice A n c));have hr1:=hr.below hb1 hr.lt;have hs1:=hs.below (hb1.mono hB);obtain ⟨e0,e1,e2,e3⟩:=hce;have c0:=hr1.cell 0;have c1:=hr1.cell 1;have c4:=hr1.cell 6;simp only [ZgS,ZgZ] at c0 c1 c4;have HBL:=hid hb1;have HS:=hid hs1;have HN:=hid hn;obtain ⟨O,rB,I,⟨K,H,S⟩,sd,D⟩:=r;obtain ⟨nm,yo,yl,tr⟩:=y;simp only at*
 obtain ⟨k,rfl⟩:=Int.eq_ofNat_of_zero_le hb0;clear hb hr hs hb1 hr1 hs1 hn;unfold Ent.val;unfold cntE at HB;simp only at*
 by_cases h1:yo=O
 ·subst h1
  have t1:(yo==yo)=true:=by simp
  by_cases h2:k < n
  ·obtain ⟨bb,o,e9,hbb,hct⟩:=HS.out.get h2 (Zz45 tr k (by rw [HN.out];exact h2))
   subst e9;have h2':(k:Int) < (n:Int):=by omega
   obtain ⟨z,hz⟩:∃ z,tr.getD k 0=z:=⟨_,rfl⟩;rw [hz] at hct;have HZ:=hid hz;clear hz;by_cases h3:sd=seedL yo k z
   ·have hbt:b=true:=by
     have:=HB.out
     rw [Int.toNat_natCast,HZ.out,HN.out,decide_eq_true h3,decide_eq_true h2'] at this;simpa using this.symm
    subst hbt;have t3:((sd.toNat:Int)==((seedL yo k z).toNat:Int))=true:=by rw [h3];simp
    have H3:=hid h3;clear h3;go_enter Tryz.func86,Tryz.ntmps86;go_wp2_with fail;go_quiet ((go_at_call 87;exact Calls.quiet_of_same ((Zz8f yo k z _).mono (fun e w' ⟨h1,h2⟩=>⟨h1,h2.symm⟩))))
    go_wp2_with fail;go_ret
    exact ⟨rfl,Zz01 HBL.out _⟩
   ·have hbt:b=false:=by
     have:=HB.out
     rw [Int.toNat_natCast,HZ.out,HN.out,decide_eq_false h3] at this;simpa using this.symm
    subst hbt;have t3:((sd.toNat:Int)==((seedL yo k z).toNat:Int))=false:=by
     have:sd.toNat≠(seedL yo k z).toNat:=fun h9=>h3 (BitVec.eq_of_toNat_eq h9)
     simp;omega
    have H3:=hid h3;clear h3;go_enter Tryz.func86,Tryz.ntmps86;go_wp2_with fail;go_quiet ((go_at_call 87;exact Calls.quiet_of_same ((Zz8f yo k z _).mono (fun e w' ⟨h1,h2⟩=>⟨h1,h2.symm⟩))))
    go_wp2_with fail;go_ret
    exact ⟨rfl,Zz01 HBL.out _⟩
  ·have h2':¬ (k:Int) < (n:Int):=by omega
   have h2d:decide ((k:Int) < (n:Int))=false:=decide_eq_false h2';have hbt:b=false:=by
    have:=HB.out
    rw [HN.out,h2d] at this;simpa using this.symm
   subst hbt;go_enter Tryz.func86,Tryz.ntmps86;go_wp2_with fail;go_quiet (fail)
   go_wp2_with fail;go_ret
   exact ⟨rfl,Zz01 HBL.out _⟩
 ·have t1:(yo==O)=false:=by simp [h1]
  have hbt:b=false:=by
   have:=HB.out
   rw [decide_eq_false h1] at this;simpa using this.symm
  subst hbt;clear h1;go_enter Tryz.func86,Tryz.ntmps86;go_wp2_with fail;go_quiet (fail)
  go_wp2_with fail;go_ret
  exact ⟨rfl,Zz01 HBL.out _⟩
theorem Zzby {α:Type} [Inhabited α] {es:List α} {p:α→Bool} {k:Nat} (hk:k < es.length) (h:p (es.getD k default)=true):es.any p=true:=by
 rw [List.any_eq_true];exact ⟨_,by rw [ZgD,ZgE hk];exact List.getElem_mem _,h⟩
theorem Zzhd {α:Type} [Inhabited α] {es:List α} {p:α→Bool} (h:∀ k,k < es.length→p (es.getD k default)=false):es.any p=false:=by
 rw [List.any_eq_false];intro x hx;obtain ⟨k,hk,rfl⟩:=List.getElem_of_mem hx;have:=h k hk
 rw [ZgD,ZgE hk] at this;simpa using this
def RecCells (r:Rec) (Ar:Option Addr) (nr cr:Nat):List Value:= [.int .i64 r.O,.int .i64 r.B,.int .i64 r.I,.int .i64 r.P.K,.int .i64 r.P.H,.int .i64 r.P.S,.int .u32 (r.S.toNat:Int),.slice Ar nr cr]
theorem Zzal (r:Rec) (B:Nat) (A Ar:Option Addr) (n c nr cr:Nat) (ts:List Value) (es:List Ent) (gr:Nat) (b:Bool) (w:World) (h:REs w B A n ts es) (hB:B≤w.heap.size) (hn:n≤9223372036854775807) (hr:Row w gr 73 (RecCells r Ar nr cr)) (hb0:0≤r.B) (hb:es.any (cntE r)=b):
  Calls Tryz.prog 112 #[.slice A n c,.func (Fn.func 86) #[] #[.pointer (some ⟨gr,0,none⟩)]] w fun e w'=>(∃ z:Int,e= .returned (.int .i64 z)∧decide (0≤z)=b)∧Below w.heap.size w w':=by
 have HL:=hid h.len;have HB:=hid hb;have H:=hid h;have HR:=hid hr;have HB0:=hid hb0;clear hb h hr hb0;go_enter Tryz.func112,Tryz.ntmps112;go_wp2_with fail;go_loopw [8] (fun i wr=>∃ k:Nat,k≤n∧i= .int .i64 k∧Below w.heap.size w wr∧Hid (∀ j,j < k→cntE r (es.getD j default)=false)) (fun i _=>n - (intOf i).toNat)
 case atStart=>exact ⟨0,Nat.zero_le _,rfl,Below.refl _ _,hid (fun j hj=>absurd hj (by omega))⟩
 case round=>
  obtain ⟨k,hk,rfl,hbr,HK⟩:=hrel;have hzr:=hbr.size;by_cases hlt:k < n
  ·obtain ⟨bb,o',A',c',e',hbb,e0,e1,e2,e3,hc1,hc2,hsl⟩:=(H.out.below (hbr.mono hB)).get hlt
   subst e';obtain ⟨x,hx⟩:∃ x,es.getD k default=x:=⟨_,rfl⟩;have HXX:=hid hx;rw [hx] at e0 e1 e2 e3 hc1 hsl;have HSL:=hid hsl;have HRR:=hid (HR.out.below hbr HR.out.lt);obtain ⟨q,hq⟩:∃ q,cntE r x=q:=⟨_,rfl⟩;have HQ:=hid hq;have hc9:x.tries.length≤9223372036854775807:=by omega
   clear hx hsl hq;go_wp2_with fail;refine (Zzc7 r x A' Ar x.tries.length c' nr cr gr B q wr HRR.out HSL.out (ZnT hB hzr) rfl HB0.out hc9 HQ.out).mono ?_;rintro e w3 ⟨rfl,hb3⟩;have hb4:=hbr.trans (hb3.mono hzr);cases q with
   | true=>
    have hyes:b=true:=by rw [← HB.out];exact Zzby (k:=k) (by rw [HL.out];exact hlt) (by rw [HXX.out];exact HQ.out)
    subst hyes;go_wp2_with fail;go_ret
    exact ⟨⟨_,rfl,by simp⟩,hb4⟩
   | false=>
    go_wp2_with fail;go_roundw
    case rel=>exact ⟨k+1,by omega,by go_num,hb4,hid (fun j hj=>by
     rcases Nat.lt_or_ge j k with h | h
     ·exact HK.out j h
     ·have e:j=k:=by omega
      rw [e,HXX.out];exact HQ.out)⟩
    case measure=>simp [intOf];omega
  ·obtain rfl:k=n:=by omega
   have hyes:b=false:=by rw [← HB.out];exact Zzhd (fun j hj=>HK.out j (by rw [HL.out] at hj;exact hj))
   subst hyes;go_wp2_with fail;go_ret
   exact ⟨⟨_,rfl,by simp⟩,hbr⟩
theorem Zzat (r:Rec) (B:Nat) (A Ar:Option Addr) (n c nr cr:Nat) (ts:List Value) (es:List Ent) (gr:Nat) (b:Bool) (w:World) (h:REs w B A n ts es) (hB:B≤w.heap.size) (hn:n≤9223372036854775807) (hr:Row w gr 73 (RecCells r Ar nr cr)) (hb0:0≤r.B) (hb:es.any (cntE r)=b):
  Calls Tryz.prog 85 #[.slice A n c,.func (Fn.func 86) #[] #[.pointer (some ⟨gr,0,none⟩)]] w fun e w'=>e= .returned (.bool b)∧Below w.heap.size w w':=by
 have HR:=hid hr;have HB0:=hid hb0;clear hr hb0;go_enter Tryz.func85,Tryz.ntmps85;go_wp2_with fail;refine (Zzal r B A Ar n c nr cr ts es gr b w h hB hn HR.out HB0.out hb).mono ?_;rintro e w3 ⟨⟨z,rfl,hr⟩,hb3⟩;have HZ:=hid hr;clear hr;go_wp2_with fail;go_ret
 exact ⟨Zz0a HZ.out,hb3⟩
theorem Zzax (m:Mani) (r:Rec) (B:Nat) (Ad Ao Ar:Option Addr) (nd cd no co nr cr:Nat) (ts:List Value) (b:Bool) (w:World) (h:RM w B m Ad nd cd Ao no co ts) (hB:B≤w.heap.size) (hn:r.D.length=nr) (hno:no≤9223372036854775807) (hb:countsM m r=b):
  Calls Tryz.prog 45 #[m.val (.slice Ad nd cd) (.slice Ao no co),r.val (.slice Ar nr cr)] w fun e w'=>e= .returned (.bool b)∧Below w.heap.size w w':=by
 have HB:=hid hb;unfold countsM at HB;have HN:=hid hn;have hx2:=Row.new w 28 #[.int .i64 m.seq,.int .i64 m.next,.int .i64 m.P.K,.int .i64 m.P.H,.int .i64 m.P.S,.int .i64 m.extra,.slice Ad nd cd,.slice Ao no co];have hx3:=Row.new (w.alloc (.cells #[.int .i64 m.seq,.int .i64 m.next,.int .i64 m.P.K,.int .i64 m.P.H,.int .i64 m.P.S,.int .i64 m.extra,.slice Ad nd cd,.slice Ao no co] 28)) 73 #[.int .i64 r.O,.int .i64 r.B,.int .i64 r.I,.int .i64 r.P.K,.int .i64 r.P.H,.int .i64 r.P.S,.int .u32 (r.S.toNat:Int),.slice Ar nr cr];have hx2b:=hx2.alloc (.cells #[.int .i64 r.O,.int .i64 r.B,.int .i64 r.I,.int .i64 r.P.K,.int .i64 r.P.H,.int .i64 r.P.S,.int .u32 (r.S.toNat:Int),.slice Ar nr cr] 73)
 have hb2:=((Below.refl w.heap.size w).alloc (ZnR _) (.cells #[.int .i64 m.seq,.int .i64 m.next,.int .i64 m.P.K,.int .i64 m.P.H,.int .i64 m.P.S,.int .i64 m.extra,.slice Ad nd cd,.slice Ao no co] 28)).alloc (by simp) (.cells #[.int .i64 r.O,.int .i64 r.B,.int .i64 r.I,.int .i64 r.P.K,.int .i64 r.P.H,.int .i64 r.P.S,.int .u32 (r.S.toNat:Int),.slice Ar nr cr] 73);have hsz:(w.alloc (.cells #[.int .i64 m.seq,.int .i64 m.next,.int .i64 m.P.K,.int .i64 m.P.H,.int .i64 m.P.S,.int .i64 m.extra,.slice Ad nd cd,.slice Ao no co] 28)).heap.size=w.heap.size+1:=by simp
 rw [hsz] at hx3;have HX2:=hid hx2b;have HX3:=hid hx3;have HB2:=hid hb2;have HR:=hid ((h.below (hb2.mono hB)).mono (ZnT hB hb2.size));have hz2:=hb2.size;obtain ⟨pm,hpm⟩:∃ q,r.may=q:=⟨_,rfl⟩;have HPM:=hid hpm;obtain ⟨x0,x1,x2,x3,x4,x5,x6,x7⟩:=Row.c8 hx3;clear hb h hx2 hx3 hx2b hb2 hn hsz hpm;unfold Mani.val Rec.val;go_enter Tryz.func45,Tryz.ntmps45;go_wp2_with fail;generalize (w.alloc (.cells #[.int .i64 m.seq,.int .i64 m.next,.int .i64 m.P.K,.int .i64 m.P.H,.int .i64 m.P.S,.int .i64 m.extra,.slice Ad nd cd,.slice Ao no co] 28)).alloc (.cells #[.int .i64 r.O,.int .i64 r.B,.int .i64 r.I,.int .i64 r.P.K,.int .i64 r.P.H,.int .i64 r.P.S,.int .u32 (r.S.toNat:Int),.slice Ar nr cr] 73)=w2 at*
 refine (Zz4a r Ar nr cr pm w2 HN.out HPM.out).mono ?_;rintro e w3 ⟨rfl,hb3⟩;have HB3:=hid (HB2.out.trans (hb3.mono hz2));have hz3:=hb3.size;have hr2:=HX2.out.below hb3 HX2.out.lt;have hr3:=HX3.out.below hb3 HX3.out.lt;have HR3:=hid ((HR.out.below hb3).mono hz3);have HX33:=hid hr3;have m2:=hr2.cell 2;have m3:=hr2.cell 3;have m4:=hr2.cell 4;have m7:=hr2.cell 7;have r3:=hr3.cell 3;have r4:=hr3.cell 4;have r5:=hr3.cell 5;simp only [ZgS,ZgZ] at m2 m3 m4 m7 r3 r4 r5;clear hr2 hr3 hb3 x0 x1 x2 x3 x4 x5 x6 x7;cases pm with
 | false=>
  have hbt:b=false:=by
   have:=HB.out
   rw [HPM.out] at this;simpa using this.symm
  subst hbt;go_wp2_with fail;go_ret
  exact ⟨rfl,HB3.out⟩
 | true=>
  have hb0:0≤r.B:=by
   have:=HPM.out
   unfold Rec.may at this;exact (of_decide_eq_true this).2.2.1
  obtain ⟨q,hq⟩:∃ q,m.objs.any (cntE r)=q:=⟨_,rfl⟩;have HQ:=hid hq;have hcon:Calls Tryz.prog 85 #[.slice Ao no co,.func (Fn.func 86) #[] #[.pointer (some ⟨w.heap.size+1,0,none⟩)]] w3 fun e w'=>e= .returned (.bool q)∧Below w3.heap.size w3 w':=
   Zzat r w3.heap.size Ao Ar no co nr cr ts m.objs _ q w3 HR3.out.o (ZnR _) hno HX33.out hb0 hq
  have HCON:=hid hcon;clear hq hcon;go_wp2_with fail
  ·have e3:r.P.K=m.P.K:=by assumption
   have e4:r.P.H=m.P.H:=by assumption
   have e5:r.P.S=m.P.S:=by assumption
   refine HCON.out.mono ?_;rintro e w4 ⟨rfl,hb4⟩;have HB4:=hid (HB3.out.trans (hb4.mono (by omega)));have hpp:r.P=m.P:=Zzfn e3 e4 e5;have hbq:b=q:=by
    have:=HB.out
    rw [HPM.out,decide_eq_true hpp,HQ.out] at this;simpa using this.symm
   subst hbq;clear hb4 e3 e4 e5 hpp;go_wp2_with fail;go_ret
   exact ⟨rfl,HB4.out⟩
  all_goals
   have hbt:b=false:=by
    have:=HB.out
    rw [HPM.out,decide_eq_false (fun e=>by
     have e9:=congrArg Par.K e;have e8:=congrArg Par.H e;have e7:=congrArg Par.S e;contradiction)] at this
    simpa using this.symm
   subst hbt;go_ret
   exact ⟨rfl,HB3.out⟩
theorem Zz6p (m:Mani) (r:Rec) (B:Nat) (Ad Ao Ar:Option Addr) (nd cd no co nr cr:Nat) (ts:List Value) (b:Bool) (w:World) (h:RM w B m Ad nd cd Ao no co ts) (hB:B≤w.heap.size) (hn:r.D.length=nr) (hno:no≤9223372036854775807) (hb:countsM m r=b):
  Calls Tryz.prog 51 #[m.val (.slice Ad nd cd) (.slice Ao no co),r.val (.slice Ar nr cr)] w fun e w'=>e= .returned (.bool b)∧Below w.heap.size w w':=by
 have HB:=hid hb;unfold countsM at HB;have HN:=hid hn;have hx2:=Row.new w 28 #[.int .i64 m.seq,.int .i64 m.next,.int .i64 m.P.K,.int .i64 m.P.H,.int .i64 m.P.S,.int .i64 m.extra,.slice Ad nd cd,.slice Ao no co];have hx3:=Row.new (w.alloc (.cells #[.int .i64 m.seq,.int .i64 m.next,.int .i64 m.P.K,.int .i64 m.P.H,.int .i64 m.P.S,.int .i64 m.extra,.slice Ad nd cd,.slice Ao no co] 28)) 73 #[.int .i64 r.O,.int .i64 r.B,.int .i64 r.I,.int .i64 r.P.K,.int .i64 r.P.H,.int .i64 r.P.S,.int .u32 (r.S.toNat:Int),.slice Ar nr cr];have hx2b:=hx2.alloc (.cells #[.int .i64 r.O,.int .i64 r.B,.int .i64 r.I,.int .i64 r.P.K,.int .i64 r.P.H,.int .i64 r.P.S,.int .u32 (r.S.toNat:Int),.slice Ar nr cr] 73)
 have hb2:=((Below.refl w.heap.size w).alloc (ZnR _) (.cells #[.int .i64 m.seq,.int .i64 m.next,.int .i64 m.P.K,.int .i64 m.P.H,.int .i64 m.P.S,.int .i64 m.extra,.slice Ad nd cd,.slice Ao no co] 28)).alloc (by simp) (.cells #[.int .i64 r.O,.int .i64 r.B,.int .i64 r.I,.int .i64 r.P.K,.int .i64 r.P.H,.int .i64 r.P.S,.int .u32 (r.S.toNat:Int),.slice Ar nr cr] 73);have hsz:(w.alloc (.cells #[.int .i64 m.seq,.int .i64 m.next,.int .i64 m.P.K,.int .i64 m.P.H,.int .i64 m.P.S,.int .i64 m.extra,.slice Ad nd cd,.slice Ao no co] 28)).heap.size=w.heap.size+1:=by simp
 rw [hsz] at hx3;have HX2:=hid hx2b;have HX3:=hid hx3;have HB2:=hid hb2;have HR:=hid ((h.below (hb2.mono hB)).mono (ZnT hB hb2.size));have hz2:=hb2.size;obtain ⟨pm,hpm⟩:∃ q,r.may=q:=⟨_,rfl⟩;have HPM:=hid hpm;obtain ⟨x0,x1,x2,x3,x4,x5,x6,x7⟩:=Row.c8 hx3;clear hb h hx2 hx3 hx2b hb2 hn hsz hpm;unfold Mani.val Rec.val;go_enter Tryz.func51,Tryz.ntmps51;go_wp2_with fail;generalize (w.alloc (.cells #[.int .i64 m.seq,.int .i64 m.next,.int .i64 m.P.K,.int .i64 m.P.H,.int .i64 m.P.S,.int .i64 m.extra,.slice Ad nd cd,.slice Ao no co] 28)).alloc (.cells #[.int .i64 r.O,.int .i64 r.B,.int .i64 r.I,.int .i64 r.P.K,.int .i64 r.P.H,.int .i64 r.P.S,.int .u32 (r.S.toNat:Int),.slice Ar nr cr] 73)=w2 at*
 refine (Zz23 r Ar nr cr pm w2 HN.out HPM.out).mono ?_;rintro e w3 ⟨rfl,hb3⟩;have HB3:=hid (HB2.out.trans (hb3.mono hz2));have hz3:=hb3.size;have hr2:=HX2.out.below hb3 HX2.out.lt;have hr3:=HX3.out.below hb3 HX3.out.lt;have HR3:=hid ((HR.out.below hb3).mono hz3);have HX33:=hid hr3;have m2:=hr2.cell 2;have m3:=hr2.cell 3;have m4:=hr2.cell 4;have m7:=hr2.cell 7;have r3:=hr3.cell 3;have r4:=hr3.cell 4;have r5:=hr3.cell 5;simp only [ZgS,ZgZ] at m2 m3 m4 m7 r3 r4 r5;clear hr2 hr3 hb3 x0 x1 x2 x3 x4 x5 x6 x7;cases pm with
 | false=>
  have hbt:b=false:=by
   have:=HB.out
   rw [HPM.out] at this;simpa using this.symm
  subst hbt;go_wp2_with fail;go_ret
  exact ⟨rfl,HB3.out⟩
 | true=>
  have hb0:0≤r.B:=by
   have:=HPM.out
   unfold Rec.may at this;exact (of_decide_eq_true this).2.2.1
  go_wp2_with fail
  ·have e3:r.P.K=m.P.K:=by assumption
   have e4:r.P.H=m.P.H:=by assumption
   have e5:r.P.S=m.P.S:=by assumption
   have hpp:r.P=m.P:=Zzfn e3 e4 e5;have HBQ:Hid (m.objs.any (cntE r)=b):=hid (by
    have:=HB.out
    rw [HPM.out,decide_eq_true hpp] at this;simpa using this)
   clear e3 e4 e5 hpp m2 m3 m4 r3 r4 r5;have HLO:=hid HR3.out.o.len;go_loopw [20] (fun i wr=>∃ k:Nat,k≤no∧i= .int .i64 (k:Int)∧Below w3.heap.size w3 wr∧Hid (∀ j,j < k→cntE r (m.objs.getD j default)=false)) (fun i _=>no - (intOf i).toNat)
   case atStart=>exact ⟨0,Nat.zero_le _,rfl,Below.refl _ _,hid (fun j hj=>absurd hj (by omega))⟩
   case round=>
    obtain ⟨k,hk,rfl,hbr,HK⟩:=hrel;have hzr:=hbr.size;have HBR:=hid (HB3.out.trans (hbr.mono (by omega)));by_cases hlt:k < no
    ·obtain ⟨bb,o',A',c',e',hbb,e0,e1,e2,e3,hc1,hc2,hsl⟩:=(HR3.out.o.below hbr).get hlt
     subst e';have hrr:=HX33.out.below hbr HX33.out.lt;obtain ⟨y,hy⟩:∃ y,m.objs.getD k default=y:=⟨_,rfl⟩;have HY:=hid hy;rw [hy] at e0 e1 e2 e3 hc1 hsl;obtain ⟨nt,hnt⟩:∃ nt,y.tries.length=nt:=⟨_,rfl⟩;rw [hnt] at e3 hc1 hsl;have HNT:=hid hnt;have hx6:=Row.new wr 61 #[.string (strB y.name),.int .i64 y.obj,.int .i64 y.len,.slice A' nt c'];have hbx:Below wr.heap.size wr (wr.alloc (.cells #[.string (strB y.name),.int .i64 y.obj,.int .i64 y.len,.slice A' nt c'] 61)):=(Below.refl _ _).alloc (ZnR _) _;have hrx:=hrr.below hbx hrr.lt;have y1:=hx6.cell 1;have y3:=hx6.cell 3;have c0:=hrx.cell 0;have c1:=hrx.cell 1;have c6:=hrx.cell 6;simp only [ZgS,ZgZ] at y1 y3 c0 c1 c6
     have HS:=hid (hsl.below (hbx.mono hzr));have HBX:=hid (hbr.trans (hbx.mono hzr));have HBX2:=hid (HBR.out.trans (hbx.mono (by have:=HBR.out.size;omega)));clear hy hnt hsl hx6 hbx hrx hrr hbr;obtain ⟨q,hq⟩:∃ q,cntE r y=q:=⟨_,rfl⟩;have HQ:=hid hq;unfold cntE at hq;obtain ⟨rB,hrB⟩:=Int.eq_ofNat_of_zero_le hb0;have HRB:=hid hrB;rw [hrB,Int.toNat_natCast,HNT.out] at hq;have HQ2:=hid hq;rw [hrB] at c1;clear hq hrB;have hend:∀ wq:World,True:=fun _=>trivial
     by_cases h1:y.obj=r.O
     ·have t1:(y.obj==r.O)=true:=by simp [h1]
      have HO1:=hid h1;by_cases h2:rB < nt
      ·obtain ⟨b7,o7,e9,hb7,hct⟩:=HS.out.get h2 (Zz45 y.tries rB (by rw [HNT.out];exact h2))
       subst e9;have h2':(rB:Int) < (nt:Int):=by omega
       obtain ⟨z,hz⟩:∃ z,y.tries.getD rB 0=z:=⟨_,rfl⟩;rw [hz] at hct;have HZ:=hid hz;clear hz h1;by_cases h3:r.S=seedL r.O rB z
       ·have hqt:q=true:=by
         have:=HQ2.out
         rw [HZ.out,HO1.out,decide_eq_true h3,decide_eq_true h2'] at this;simpa using this.symm
        have t3:((r.S.toNat:Int)==((seedL r.O rB z).toNat:Int))=true:=by rw [h3];simp
        have hyes:b=true:=by rw [← HBQ.out];exact Zzby (k:=k) (by rw [HLO.out];exact hlt) (by rw [HY.out,HQ.out];exact hqt)
        subst hyes;clear h3 hqt;go_wp2_with fail;go_quiet ((go_at_call 72;exact Calls.quiet_of_same ((Zz37 r.O rB z _).mono (fun e w' ⟨h1,h2⟩=>⟨h1,h2.symm⟩))))
        go_wp2_with fail;go_ret
        exact ⟨rfl,Zz01 HBX2.out _⟩
       ·have HQF:Hid (q=false):=hid (by
         have:=HQ2.out
         rw [HZ.out,decide_eq_false h3] at this;simpa using this.symm)
        have t3:((r.S.toNat:Int)==((seedL r.O rB z).toNat:Int))=false:=by
         have:r.S.toNat≠(seedL r.O rB z).toNat:=fun h9=>h3 (BitVec.eq_of_toNat_eq h9)
         simp;omega
        clear h3;go_wp2_with fail;go_quiet ((go_at_call 72;exact Calls.quiet_of_same ((Zz37 r.O rB z _).mono (fun e w' ⟨h1,h2⟩=>⟨h1,h2.symm⟩))))
        go_wp2_with fail;go_roundw
        case rel=>exact ⟨k+1,by omega,by go_num,Zz01 HBX.out _,hid (fun j hj=>by
         rcases Nat.lt_or_ge j k with h9 | h9
         ·exact HK.out j h9
         ·obtain rfl:j=k:=by omega
          rw [HY.out,HQ.out];exact HQF.out)⟩
        case measure=>simp [intOf];omega
      ·have h2':¬ (rB:Int) < (nt:Int):=by omega
       have h2d:decide ((rB:Int) < (nt:Int))=false:=decide_eq_false h2';have HQF:Hid (q=false):=hid (by
        have:=HQ2.out
        rw [h2d] at this;simpa using this.symm)
       clear h1;go_wp2_with fail;go_quiet (fail)
       go_wp2_with fail;go_roundw
       case rel=>exact ⟨k+1,by omega,by go_num,Zz01 HBX.out _,hid (fun j hj=>by
        rcases Nat.lt_or_ge j k with h9 | h9
        ·exact HK.out j h9
        ·obtain rfl:j=k:=by omega
         rw [HY.out,HQ.out];exact HQF.out)⟩
       case measure=>simp [intOf];omega
     ·have t1:(y.obj==r.O)=false:=by simp [h1]
      have HQF:Hid (q=false):=hid (by
       have:=HQ2.out
       rw [decide_eq_false h1] at this;simpa using this.symm)
      clear h1;go_wp2_with fail;go_quiet (fail)
      go_wp2_with fail;go_roundw
      case rel=>exact ⟨k+1,by omega,by go_num,Zz01 HBX.out _,hid (fun j hj=>by
       rcases Nat.lt_or_ge j k with h9 | h9
       ·exact HK.out j h9
       ·obtain rfl:j=k:=by omega
        rw [HY.out,HQ.out];exact HQF.out)⟩
      case measure=>simp [intOf];omega
    ·obtain rfl:no=k:=by omega
     have hno2:b=false:=by rw [← HBQ.out];exact Zzhd (fun j hj=>HK.out j (by rw [HLO.out] at hj;exact hj))
     subst hno2;go_wp2_with fail;go_ret
     exact ⟨rfl,HBR.out⟩
  all_goals
   have hbt:b=false:=by
    have:=HB.out
    rw [HPM.out,decide_eq_false (fun e=>by
     have e9:=congrArg Par.K e;have e8:=congrArg Par.H e;have e7:=congrArg Par.S e;contradiction)] at this
    simpa using this.symm
   subst hbt;go_ret
   exact ⟨rfl,HB3.out⟩
theorem Zzar (A:Option Addr) (c:Nat) (fv:Value) (w:World):
  Calls Tryz.prog 113 #[.slice A 0 c,.int .i64 0,.int .i64 0,fv] w fun e w'=>e= .returned (.tuple #[])∧w=w':=by
 go_enter Tryz.func113,Tryz.ntmps113;go_wp2_with fail;go_loopw [8] (fun a wr=>a= .int .i64 1∧w=wr) (fun _ _=>0)
 case atStart=>exact ⟨rfl,rfl⟩
 case round=>
  obtain ⟨rfl,rfl⟩:=hrel;go_wp2_with fail;go_end0
  exact ⟨rfl,rfl⟩
theorem Zzco (A:Option Addr) (c:Nat) (fv:Value) (w:World):
  Calls Tryz.prog 88 #[.slice A 0 c,.int .i64 0,fv] w fun e w'=>e= .returned (.tuple #[])∧w=w':=by
 go_enter Tryz.func88,Tryz.ntmps88;go_wp2_with fail;go_loopw [7,8] (fun a b wr=>a= .int .i64 0∧b= .int .i64 20∧w=wr) (fun _ _ _=>0)
 case atStart=>exact ⟨rfl,rfl,rfl⟩
 case round=>
  obtain ⟨rfl,rfl,rfl⟩:=hrel;go_wp2_with fail;refine (Zzar A c fv w).mono ?_;rintro e w1 ⟨rfl,rfl⟩;go_wp2_with fail;go_loopw [6] (fun a wr=>a= .int .i64 20∧w=wr) (fun _ _=>0)
  case atStart=>exact ⟨rfl,rfl⟩
  case round=>
   obtain ⟨rfl,rfl⟩:=hrel;go_wp2_with fail;go_end0
   exact ⟨rfl,rfl⟩
theorem Zz58 (A:Option Addr) (c:Nat) (fv:Value) (w:World):
  Calls Tryz.prog 46 #[.slice A 0 c,fv] w fun e w'=>e= .returned (.tuple #[])∧w=w':=by
 go_enter Tryz.func46,Tryz.ntmps46;go_wp2_with fail;refine (Zzco A c fv w).mono ?_;rintro e w1 ⟨rfl,rfl⟩;go_wp2_with fail;go_end0
 exact ⟨rfl,rfl⟩
theorem Zza0 (A:Option Addr) (c:Nat) (fv:Value) (w:World):
  Calls Tryz.prog 48 #[.slice A 0 c,fv] w fun e w'=>e= .returned (.slice A 0 c)∧w=w':=by
 go_enter Tryz.func48,Tryz.ntmps48;go_wp2_with fail;go_ret
 exact ⟨rfl,rfl⟩
end Go.Proofs.YtnknjeipfjdjoaaGreatDoor
