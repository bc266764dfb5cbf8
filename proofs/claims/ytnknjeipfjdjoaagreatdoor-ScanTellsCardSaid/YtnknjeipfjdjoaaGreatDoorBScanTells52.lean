/- PlayLt Open Law23e -/
import Derived.Deep.Matrix
import Derived.Deep.Strs
import Derived.Deep.DeepCutAuto
import Derived.Deep.CutBlock
import Derived.BigGuardPart
import Derived.Test.YtnknjeipfjdjoaaGreatDoorBScanTells19
import Derived.Test.YtnknjeipfjdjoaaGreatDoorBScanTells44
import Derived.Test.YtnknjeipfjdjoaaGreatDoorBScanTells51
set_option maxHeartbeats 8000000
set_option maxRecDepth 20000
set_option linter.unusedSimpArgs false
set_option linter.unusedVariables false
namespace Go.Proofs.YtnknjeipfjdjoaaGreatDoor
open Go.RowKit Wells
theorem LightM.lt {m:Mani} (h:LightM m) (h':M64 m):Lt 2000 m:=⟨h',fun e he=>ZnT (h.nm e he) (by omega),fun e he=>ZnT (h.tr e he) (by omega),ZnT h.dl (by omega),ZnT h.ol (by omega)⟩
theorem _root_.Wells.PlayM.lt {m:Mani} (h:PlayM m):Lt 1000 m:=by
 have key:∀ e∈m.objs,e.name.length≤1000∧e.tries.length≤1000:=fun e he=>by
  obtain ⟨i,hi,rfl⟩:=List.mem_iff_getElem.1 he;have hp:=h.objs i hi;rw [show m.objs.getD i default=m.objs[i] by simp [hi]] at hp;obtain ⟨x,_,hn⟩:=hp.name;have h1:=(Zz5i m.P m.objs[i].len).2 hp.len.1;have h2:=hp.len.2;have h3:m.P.K*m.P.S≤6*m.P.S:=Int.mul_le_mul_of_nonneg_right h.P.2.1 (by have:=h.P;omega);have h4:=hp.count;have h5:=h.P;refine ⟨by rw [hn];show 2≤1000;omega,by omega⟩
 exact ⟨h.m64.1,fun e he=>(key e he).1,fun e he=>(key e he).2,ZnT h.dlen (by omega),ZnT h.olen (by omega)⟩
end Go.Proofs.YtnknjeipfjdjoaaGreatDoor
namespace Go.Proofs.YtnknjeipfjdjoaaGreatDoor
open Go.ChangeShapes Go.WideShapes Go.ChangeAt Go.RowKit Wells
structure IsBytess (w:World) (A:Option Addr) (n c:Nat) (vs:List Value) (ls:List (List Byte)):Prop where
 rb:RBs w w.heap.size A n vs ls
 le:n≤c
 cap:c≤9223372036854775807
theorem Zz5z {H:Type} {enc:TypeId×Value→H} {w:World} {base:Nat} {sp:Nat→Bool} {held:Bool} {A:Option Addr} {n c fuel:Nat} {x:DataW H×List MemPlace}
  (hsp:sp=fun _=>true) (hf:DataW.trod enc Tryz.prog w base sp held fuel 23 [.slice A n c]=some x):∃ vs ls,IsBytess w A n c vs ls:=by
 subst hsp;rcases Deep.open_int_rows Tryz.underlying23 Tryz.underlying33 Tryz.underlying5 (by kernel_rfl) (by kernel_rfl) hf with ⟨hcs,_⟩ | ⟨a,len,cap,Ar,L,C,Z,hcs,_,hl,hm,_,hr⟩
 ·simp at hcs
  obtain ⟨rfl,rfl,rfl⟩:=hcs;exact ⟨[], [],⟨Sl.nil_,rfl,fun i hi=>by omega⟩,by omega,by omega⟩
 ·simp at hcs
  obtain ⟨rfl,rfl,rfl⟩:=hcs;unfold maxLen at hm;refine ⟨(List.range n).map fun r=> .slice (Ar r) (L r) (C r),(List.range n).map fun r=>((Z r).take (L r)).map fun z=>BitVec.ofNat 8 z.toNat,⟨?_,by simp,fun i hi=> ?_⟩,hl,by omega⟩
  ·refine Zz2a (by simp) fun i hi=> ?_
   rw [(hr i (by omega)).1];simp [hi]
  ·obtain ⟨h1,h2,h3,h4,h5,h6,h7⟩:=hr i (by omega)
   unfold maxLen at h3;have hb:∀ z∈Z i,0≤z∧z≤255:=fun z hz=>by
    have:=bounds_u8 (h5 z hz);omega
   have hlen:L i≤(Z i).length:=by omega
   simp only [ZgD,List.getElem?_map,List.getElem?_range hi,Option.map_some,Option.getD_some];have hl2:(((Z i).take (L i)).map fun z=>(BitVec.ofNat 8 z.toNat:Byte)).length=L i:=by simp;omega
   refine ⟨Ar i,C i,by rw [hl2],by rw [hl2];exact h2,by omega,?_⟩;rw [hl2];cases ha:Ar i with
   | none=>
    have:=h6 ha
    have hz0:L i=0:=by omega
    rw [hz0];simp
    exact Sl.nil_
   | some a'=>
    obtain ⟨_,hc⟩:=h7 a' ha;refine Zz2a (by simp;omega) fun j hj=> ?_
    rw [hc j (by omega),List.map_map,List.getElem?_map,List.getElem?_take,if_pos hj,ZgE (by omega)];have:=hb ((Z i)[j]'(by omega)) (List.getElem_mem _)
    simp only [Option.map_some,Function.comp,Zz4f this.1 this.2];rw [ZgD,ZgE (by omega)];rfl
end Go.Proofs.YtnknjeipfjdjoaaGreatDoor
namespace Wells
open Go Go.RowKit
def padC (l:List Byte):List Byte:=l.take 64++List.replicate (64 - min l.length 64) 0#8
theorem Zzd9 (l:List Byte):(padC l).length=64:=by unfold padC;simp;omega
end Wells
namespace Go.Proofs.YtnknjeipfjdjoaaGreatDoor
open Go.RowKit Wells
theorem Zzgm {w:World} {B:Nat} {m:Mani} {Ad:Option Addr} {nd cd:Nat} {Ao:Option Addr} {no co:Nat} {ts:List Value} (h:RM w B m Ad nd cd Ao no co ts) (s:Int):RM w B (bump m s) Ad nd cd Ao no co ts:=⟨h.d,h.dl,h.dc,h.o,h.oc⟩
theorem Zzhl {m:Mani} (h:M64 m) {s:Int} (hs:i64 s):M64 (bump m s):=⟨hs,h.next,h.K,h.H,h.S,h.extra,h.drives,h.objs⟩
def InRowT (w:World) (gs k:Nat):Prop:=
 ∃ (mk:Mani) (Ak:Option Addr) (nk ck:Nat) (Aok:Option Addr) (nok cok:Nat) (tsk:List Value),RM w w.heap.size mk Ak nk ck Aok nok cok tsk∧Lt 2000 mk∧
 w.cell? ⟨gs,k*8,none⟩=some (.int .i64 mk.seq)∧w.cell? ⟨gs,k*8+1,none⟩=some (.int .i64 mk.next)∧w.cell? ⟨gs,k*8+2,none⟩=some (.int .i64 mk.P.K)∧w.cell? ⟨gs,k*8+3,none⟩=some (.int .i64 mk.P.H)∧w.cell? ⟨gs,k*8+4,none⟩=some (.int .i64 mk.P.S)∧w.cell? ⟨gs,k*8+5,none⟩=some (.int .i64 mk.extra)∧w.cell? ⟨gs,k*8+6,none⟩=some (.slice Ak nk ck)∧w.cell? ⟨gs,k*8+7,none⟩=some (.slice Aok nok cok)
theorem walk_ScanTells (A:Option Addr) (n c:Nat) (l:List Int) (A2:Option Addr) (n2 c2:Nat) (l2:List Int) (A3:Option Addr) (n3 c3:Nat) (vs3:List Value) (ls3:List (List Byte)) (wm:Mani) (Ad0:Option Addr) (nd0 cd0:Nat) (Ao0:Option Addr) (no0 co0:Nat) (ts0:List Value) (w:World) (h:IsInts w A n c l) (h2:IsInts w A2 n2 c2 l2) (h3:IsBytess w A3 n3 c3 vs3 ls3) (hm:IsMani w wm Ad0 nd0 cd0 Ao0 no0 co0 ts0):
  Calls Tryz.prog 3 #[.slice A n c,.slice A2 n2 c2,.slice A3 n3 c3,wm.val (.slice Ad0 nd0 cd0) (.slice Ao0 no0 co0)] w fun e w'=>e= .returned (.bool true)∧Below w.heap.size w w':=by
 obtain ⟨i0,hi,hz0,hz1,hz2⟩:=info_parts infoB;obtain ⟨ibs,hibs,hzb0,hzb1,hzb2⟩:=info_parts infoBs;obtain ⟨hs,hle,hcap,hwf⟩:=h;obtain ⟨hs2,hle2,hcap2,hwf2⟩:=h2;obtain ⟨hrb3,hle3,hcap3⟩:=h3;have hb1:Below w.heap.size w (w.alloc (.cells #[.int .i64 wm.seq,.int .i64 wm.next,.int .i64 wm.P.K,.int .i64 wm.P.H,.int .i64 wm.P.S,.int .i64 wm.extra,.slice Ad0 nd0 cd0,.slice Ao0 no0 co0] 28)):=(Below.refl _ _).alloc (ZnR _) _;have hx1:=Row.new w 28 #[.int .i64 wm.seq,.int .i64 wm.next,.int .i64 wm.P.K,.int .i64 wm.P.H,.int .i64 wm.P.S,.int .i64 wm.extra,.slice Ad0 nd0 cd0,.slice Ao0 no0 co0];have HR3:=hid (hrb3.below hb1);have HRW1:=hid ((hm.r.below hb1).mono hb1.size);have HW64:=hid hm.m64
 have HB1:=hid hb1;have HXW:=hid hx1;have HS1:=hid ((hs.below hb1).mono hb1.size);have HS2:=hid ((hs2.below hb1).mono hb1.size);have hr0:=hx1;obtain ⟨x0,x1,x2,x3,x4,x5,x6,x7⟩:=Row.c8 hr0;clear hr0;clear hb1 hx1 hm hs hs2 hrb3;unfold Mani.val;by_cases h6:(6:Int) < (n3:Int)
 ·go_enter Tryz.func3,Tryz.ntmps3
  go_wp2_with fail;refine (wakes23 _).mono ?_;rintro e w9 ⟨rfl,hb9⟩;have hbe:=HB1.out.trans (hb9.mono HB1.out.size);go_wp2_with fail;go_ret
  exact ⟨rfl,hbe⟩
 go_enter Tryz.func3,Tryz.ntmps3;go_wp2_with fail;generalize w.alloc (.cells #[.int .i64 wm.seq,.int .i64 wm.next,.int .i64 wm.P.K,.int .i64 wm.P.H,.int .i64 wm.P.S,.int .i64 wm.extra,.slice Ad0 nd0 cd0,.slice Ao0 no0 co0] 28)=w1 at*;obtain ⟨gw,hgw⟩:∃ g,w.heap.size=g:=⟨_,rfl⟩;have HGW:=hid hgw;rw [hgw] at HXW x0 x1 x2 x3 x4 x5 x6 x7 ⊢;clear hgw;refine (Zzea wm _ Ad0 Ao0 nd0 cd0 no0 co0 ts0 w1 HRW1.out (ZnR _)).mono ?_;rintro e w2a ⟨lb,rfl,hlight,hb2⟩;cases lb with
 | false=>
  have HB2:=hid (HB1.out.trans (hb2.mono HB1.out.size));clear hlight hb2;go_wp2_with fail;refine (wakes23 _).mono ?_;rintro e w9 ⟨rfl,hb9⟩;have hbe:Below w.heap.size w w9:=HB2.out.trans (hb9.mono HB2.out.size);go_wp2_with fail;go_ret
  exact ⟨rfl,hbe⟩
 | true=>
  have HLW:=hid ((hlight rfl).lt HW64.out);have HB12a:=hid hb2;clear hlight hb2 x0 x1 x2 x3 x4 x5 x6 x7;go_wp2_with fail;refine (Zzgd w2a.heap.size A n c l w2a ((HS1.out.below HB12a.out).mono HB12a.out.size) (ZnR _) (by omega) hwf).mono ?_;rintro e w2 ⟨m,Ad,nd,cd,Ao,no,co,ts,rfl,hom,hpl,hb2⟩;have HPM:=hid hpl;have HLT:=hid hpl.lt;have H64:=hid hpl.m64;have hsq:=hpl.seq;have hb12:=HB12a.out.trans (hb2.mono HB12a.out.size);have hrow:=Row.new w2 28 #[.int .i64 m.seq,.int .i64 m.next,.int .i64 m.P.K,.int .i64 m.P.H,.int .i64 m.P.S,.int .i64 m.extra,.slice Ad nd cd,.slice Ao no co]
  have hb3:Below w2.heap.size w2 (w2.alloc (.cells #[.int .i64 m.seq,.int .i64 m.next,.int .i64 m.P.K,.int .i64 m.P.H,.int .i64 m.P.S,.int .i64 m.extra,.slice Ad nd cd,.slice Ao no co] 28)):=(Below.refl _ _).alloc (ZnR _) _;have HX:=hid hrow;have HM:=hid ((hom.read.below hb3).mono hb3.size);have hb13:=hb12.trans (hb3.mono hb12.size);have HB13:=hid hb13;have HS23:=hid ((HS2.out.below hb13).mono hb13.size);have HR33:=hid (HR3.out.below (hb13.mono HB1.out.size));have HXW3:=hid (HXW.out.below hb13 HXW.out.lt);have HRW3:=hid ((HRW1.out.below hb13).mono hb13.size);have hwz:w.heap.size≤w2.heap.size:=ZnT HB1.out.size hb12.size;clear hom hpl hb2 hb12 hrow hb3 hb13 HB12a HRW1 HS1 HS2 HR3
  unfold Mani.val;go_wp2_with fail;generalize w2.alloc (.cells #[.int .i64 m.seq,.int .i64 m.next,.int .i64 m.P.K,.int .i64 m.P.H,.int .i64 m.P.S,.int .i64 m.extra,.slice Ad nd cd,.slice Ao no co] 28)=w3 at*;obtain ⟨gm,hgm⟩:∃ g,w2.heap.size=g:=⟨_,rfl⟩;rw [hgm] at HX hwz ⊢;clear hgm;have hr0:=HX.out;obtain ⟨x0,x1,x2,x3,x4,x5,x6,x7⟩:=Row.c8 hr0;clear hr0;have hw3:w.heap.size≤w3.heap.size:=ZnT hwz (Nat.le_of_lt HX.out.lt);go_wp2_with fail;refine (Zz66 m w3.heap.size Ad Ao nd cd no co ts A2 n2 c2 40 l2 w3 HM.out (ZnR _) HPM.out HS23.out (by omega) hwf2 (by omega)).mono ?_;rintro e w4 ⟨A4,c4,vs4,ls4,nc,rfl,hlc,hnc,h64c,ho4,hb4⟩
  have HLC:=hid (show ls4.length=nc∧∀ x∈ls4,x.length=64 from ⟨hlc,h64c⟩);have HO4:=hid ho4;have HB34:=hid hb4;clear hlc h64c ho4 hb4 x0 x1 x2 x3 x4 x5 x6 x7;go_wp2_with fail;go_loopw [10,34] (fun cv iv wr=>∃ (k n' c':Nat) (A':Option Addr) (vs':List Value) (ls':List (List Byte)),k≤n3∧iv= .int .i64 (k:Int)∧cv= .slice A' n' c'∧Hid (n'=nc+k)∧Hid (ls'.length=n'∧∀ x∈ls',x.length=64)∧OBs w3.heap.size wr (.slice A' n' c') vs' ls'∧Below w3.heap.size w3 wr) (fun _ iv _=>n3 - (intOf iv).toNat)
  case atStart=>exact ⟨0,nc,c4,A4,vs4,ls4,Nat.zero_le _,rfl,rfl,hid rfl,hid HLC.out,HO4.out,HB34.out⟩
  case round=>
   obtain ⟨k,n',c',A',vs',ls',hk,rfl,rfl,HNC,HLE,hobs,hbr⟩:=hrel;have hn46:n'≤46:=by have:=HNC.out;omega
   have HOBS:=hid hobs;have HBR:=hid hbr;clear hobs hbr;by_cases hlt:k < n3
   ·have hlt':(k:Int) < (n3:Int):=by omega
    obtain ⟨bb,o,Aw,cw,rfl,hbb,hcell,hc1,hc2,hsl⟩:=(HR33.out.below (HBR.out.mono hw3)).get hlt;obtain ⟨li,hli⟩:∃ q,ls3.getD k []=q:=⟨_,rfl⟩;rw [hli] at hcell hc1 hsl;obtain ⟨q,hq⟩:∃ q,li.length=q:=⟨_,rfl⟩;rw [hq] at hcell hc1 hsl;obtain ⟨q',hq'⟩:∃ q',min q 64=q':=⟨_,rfl⟩;have hst:=hsl.take (show q'≤q by omega);rw [Nat.mul_one,← List.map_take] at hst;have htl:li.take q'=li.take 64:=by
     rw [← hq'];rcases Nat.le_total q 64 with h | h
     ·rw [Nat.min_eq_left h,← hq,List.take_length,ZtL (by omega)]
     ·rw [Nat.min_eq_right h]
    rw [htl] at hst;have HST:=hid (hst.mono (ZnT hw3 HBR.out.size));have HTL:=hid (show (li.take 64).length=q' by rw [← htl,List.length_take,hq];omega);have HPAD:=hid (show (li.take 64).map bv8++List.replicate (64 - q') (Value.int .u8 0)=(padC li).map bv8 by
     unfold padC;rw [List.map_append,List.map_replicate,hq,hq'];rfl)
    have HCUT:=hid (show q'=min q (64:Int).toNat by rw [← hq'];rfl);obtain ⟨zz,hzz⟩:∃ z:Nat,64 - q'=z:=⟨_,rfl⟩;have hmn:(64:Int) - min (q:Int) 64=(zz:Int):=by omega
    rw [hzz] at HPAD;have hq64:q'+zz≤64∧64≤q'+zz∧q'≤q:=by omega
    clear hst htl hsl hli hq hzz hq';go_wp2_with fail;refine (Zzi0 Aw q cw q' 64 wr (by omega) (by omega) (by omega) hc1 HCUT.out).mono ?_;rintro e wc ⟨rfl,rfl⟩;go_wp2_with fail;refine (Zzdn _ Aw (li.take 64) q' cw wr HST.out (ZnR _) (by omega)).mono ?_;rintro e w5 ⟨A5,c5,rfl,ho5,hb5⟩;unfold OB at ho5;rw [HTL.out] at ho5;have HO5:=hid ho5;have HB5:=hid hb5;clear ho5 hb5;go_wp2_with (first
     | ((with_reducible show wpList _ _ _ (⟨some 46,_,_,_,_,_⟩::_) _ _);go_must (refine Zz41 rfl (.tmp 41) (.tmp 45) 33 3 rfl wr.heap.size 5 i0 (.int .u8 0) 1 Tryz.underlying33 Tryz.underlying3 hi hz0 hz1 hz2 rfl rfl (by omega) (.slice A5 q' c5) q' _ rfl HO5.out (zz) rfl 64 (by omega) ((padC li).map bv8) HPAD.out (by omega) (by omega) HB5.out.size ?_);intro A6 c6 w6 o6 g6;have b6:=Zz04 HB5.out HO5.out g6 (ZnR _) HB5.out.size;have HO6:=hid o6;have hb7:Below w6.heap.size w6 (w6.alloc (.cells #[.slice A6 64 c6] 33)):=(Below.refl _ _).alloc (ZnR _) _;have R7:=hid (Row.new w6 33 #[.slice A6 64 c6]);have HO7:=hid (Zz2u HO6.out hb7);have HB7:=hid (b6.trans (hb7.mono b6.size));have HOB7:=hid (HOBS.out.below HB7.out);have HB37:=hid (HBR.out.trans (HB7.out.mono HBR.out.size));have hz37:=HB37.out.size;clear o6 g6 b6 hb7)
     | ((with_reducible show wpList _ _ _ (⟨some 48,_,_,_,_,_⟩::_) _ _);go_must (refine Zz03 rfl (.tmp 38) (.tmp 47) 23 rfl w3.heap.size 33 ibs (.slice none 0 0) 1 24 Tryz.underlying23 hibs hzb0 hzb1 hzb2 rfl (by omega) (.slice A' n' c') n' vs' rfl (by have:=HOB7.out.own;rwa [HLE.out.1] at this) (w6.heap.size+1) (some ⟨w6.heap.size,0,none⟩) 1 1 _ rfl (R7.out.sl (m:=1) (by omega) (ZnR _)) (by intro u hu;simp at hu;subst hu;rfl) (n'+1) rfl _ rfl (by omega) (by omega) hz37 ?_);intro A9 c9 w9 ho9 hg9 _))
    have hps:=OBs.push HOB7.out (x:=padC li) (by unfold OB;rw [Zzd9];exact Zz0b HO7.out HBR.out.size) (by rw [HLE.out.1];exact ho9) hg9;have hb9:=Zz04 HB37.out HOB7.out.own hg9 (ZnR _) hz37;have HPS:=hid hps;have HB9:=hid hb9;clear hps hb9 ho9 hg9;go_roundw
    case rel=>exact ⟨k+1,n'+1,c9,A9,_,ls'++ [padC li],by omega,by go_num,rfl,hid (by have:=HNC.out;omega),hid ⟨by rw [List.length_append,HLE.out.1];rfl,fun x hx=>by
     rcases List.mem_append.1 hx with h1 | h1
     ·exact HLE.out.2 x h1
     ·simp only [List.mem_singleton] at h1;rw [h1];exact Zzd9 li⟩,HPS.out,HB9.out⟩
    case measure=>simp [intOf];omega
   ·obtain rfl:k=n3:=by omega
    have hlt':¬ (k:Int) < (k:Int):=by omega
    obtain ⟨wL,hwL⟩:∃ x,x=wr:=⟨_,rfl⟩;subst hwL;obtain ⟨ls,hls⟩:∃ x,x=ls':=⟨_,rfl⟩;subst hls;have HROB:=hid (HOBS.out.read HLE.out.1);have hndl:nd≤1048576:=by rw [← HM.out.dl];exact ZnT HLT.out.dl (by omega)
    have hnol:no≤1048576:=by rw [← HM.out.o.len];exact ZnT HLT.out.ol (by omega)
    go_wp2_with fail;refine (Zzbu 60 A' n' c' vs' ls wL HROB.out ⟨by omega,by omega⟩ (by omega) HLE.out.2).mono ?_;rintro e w5 ⟨F,G,g,pg,gr,qg,rfl,hh⟩;have HH5:=hid hh;have HB35:=hid (HBR.out.trans (hh.be.mono HBR.out.size));have HLL:=hid (show ls.length≤46 by rw [HLE.out.1];exact hn46);have HL48:=hid (show ∀ x∈ls,x.length≤1048576 from fun x hx=>by rw [HLE.out.2 x hx];omega);have hx5:=HX.out.below HB35.out HX.out.lt;have hr0:=hx5;obtain ⟨x0,x1,x2,x3,x4,x5,x6,x7⟩:=Row.c8 hr0;clear hr0;clear hx5 hh;go_wp2_with fail;refine (Zzg5 m _ Ad Ao nd cd no co ts w5 ((HM.out.below HB35.out).mono HB35.out.size) (ZnR _) hndl hnol (fun e he=>ZnT (HLT.out.tr e he) (by omega))).mono ?_
    rintro e w6 ⟨Ae,ne,ce,Aq,nq,cq,tq,rfl,hon,-,hb6⟩;unfold Mani.val;have hy7:Row (w6.alloc (.cells #[.int .i64 m.seq,.int .i64 m.next,.int .i64 m.P.K,.int .i64 m.P.H,.int .i64 m.P.S,.int .i64 m.extra,.slice Ae ne ce,.slice Aq nq cq] 28)) w6.heap.size 28 [.int .i64 m.seq,.int .i64 m.next,.int .i64 m.P.K,.int .i64 m.P.H,.int .i64 m.P.S,.int .i64 m.extra,.slice Ae ne ce,.slice Aq nq cq]:=Row.new w6 28 #[.int .i64 m.seq,.int .i64 m.next,.int .i64 m.P.K,.int .i64 m.P.H,.int .i64 m.P.S,.int .i64 m.extra,.slice Ae ne ce,.slice Aq nq cq]
    have hb67:Below w6.heap.size w6 (w6.alloc (.cells #[.int .i64 m.seq,.int .i64 m.next,.int .i64 m.P.K,.int .i64 m.P.H,.int .i64 m.P.S,.int .i64 m.extra,.slice Ae ne ce,.slice Aq nq cq] 28)):=(Below.refl _ _).alloc (ZnR _) _;have HN7:=hid (hon.read.below hb67);have HB56:=hid hb6;have HB67:=hid hb67;have HY7:=hid hy7;clear hon hb6 hb67 hy7 x0 x1 x2 x3 x4 x5 x6 x7;go_upto_region 14 with fail;generalize w6.alloc (.cells #[.int .i64 m.seq,.int .i64 m.next,.int .i64 m.P.K,.int .i64 m.P.H,.int .i64 m.P.S,.int .i64 m.extra,.slice Ae ne ce,.slice Aq nq cq] 28)=w7 at*;obtain ⟨gy,hgy⟩:∃ g,w6.heap.size=g:=⟨_,rfl⟩;have HGY:=hid hgy;rw [hgy] at HY7 HN7 ⊢;clear hgy;have hr0:=HY7.out
    obtain ⟨y0,y1,y2,y3,y4,y5,y6,y7⟩:=Row.c8 hr0;have f0:=hr0.frozen 0;have f1:=hr0.frozen 1;have f2:=hr0.frozen 2;have f3:=hr0.frozen 3;have f4:=hr0.frozen 4;have f5:=hr0.frozen 5;have f6:=hr0.frozen 6;have f7:=hr0.frozen 7;clear hr0;have ew14:IntKind.i64.wrap (m.seq - 1)=m.seq - 1:=by rw [IntKind.wrap_i64];omega
    obtain ⟨s,hs,hs1⟩:∃ s:Int,max 1 (m.seq - 1)=s∧(1≤s∧s≤1000):=⟨_,rfl,by omega⟩;go_upto_region 15 with fail;have hb8:=HB67.out.setCell (p:=(⟨gy,0,none⟩:Addr)) (show w6.heap.size≤gy by rw [HGY.out];exact ZnR _) (.int .i64 s);have HY8:=hid (show Row _ gy 28 [.int .i64 s,.int .i64 m.next,.int .i64 m.P.K,.int .i64 m.P.H,.int .i64 m.P.S,.int .i64 m.extra,.slice Ae ne ce,.slice Aq nq cq] from HY7.out.set 0 (.int .i64 s));have hgy7:gy < w7.heap.size:=HY7.out.lt;have hN8:=(HN7.out.below ((Below.refl gy w7).setCell (p:=(⟨gy,0,none⟩:Addr)) (ZnR _) (.int .i64 s)));have HB68:=hid hb8;have HN8:=hid hN8;clear y0 y1 y2 y3 y4 y5 y6 y7 f0 f1 f2 f3 f4 f5 f6 f7 hb8 hN8 ew14 hs HY7 HB67 HN7
    generalize w7.setCell ⟨gy,0,none⟩ (.int .i64 s)=w8 at*;have hb58:=HB56.out.trans (HB68.out.mono HB56.out.size);have HH8:=hid (HH5.out.new_ hb58);have hb38:=HB35.out.trans (hb58.mono HB35.out.size);have HB38:=hid hb38;have HM8:=hid ((HM.out.below hb38).mono hb38.size);have HN8':=hid (Zzgm (HN8.out.mono (show gy≤w8.heap.size from Nat.le_of_lt HY8.out.lt)) s);have HW8:=hid ((HRW3.out.below hb38).mono hb38.size);have HLY:=hid (show Lt 2000 (bump m s) from ⟨Zzhl H64.out.1 (by unfold i64;omega),(HLT.out.more (by omega)).nm,(HLT.out.more (by omega)).tr,(HLT.out.more (by omega)).dl,(HLT.out.more (by omega)).ol⟩);have hx8:=HX.out.below hb38 HX.out.lt;have hz8:=HXW3.out.below hb38 HXW3.out.lt
    have hr0:=hx8;obtain ⟨x0,x1,x2,x3,x4,x5,x6,x7⟩:=Row.c8 hr0;clear hr0;have hr0:=HY8.out;obtain ⟨y0,y1,y2,y3,y4,y5,y6,y7⟩:=Row.c8 hr0;clear hr0;have hr0:=hz8;obtain ⟨z0,z1,z2,z3,z4,z5,z6,z7⟩:=Row.c8 hr0;clear hr0;clear hx8 hz8 hb58 hb38 HN8 HB56 HB68 HH5
    have hb89:Below w8.heap.size w8 (w8.alloc (.cells #[.int .i64 m.seq,.int .i64 m.next,.int .i64 m.P.K,.int .i64 m.P.H,.int .i64 m.P.S,.int .i64 m.extra,.slice Ad nd cd,.slice Ao no co,.int .i64 s,.int .i64 m.next,.int .i64 m.P.K,.int .i64 m.P.H,.int .i64 m.P.S,.int .i64 m.extra,.slice Ae ne ce,.slice Aq nq cq,.int .i64 wm.seq,.int .i64 wm.next,.int .i64 wm.P.K,.int .i64 wm.P.H,.int .i64 wm.P.S,.int .i64 wm.extra,.slice Ad0 nd0 cd0,.slice Ao0 no0 co0] 28)):=(Below.refl _ _).alloc (ZnR _) _
    have hr24:Row (w8.alloc (.cells #[.int .i64 m.seq,.int .i64 m.next,.int .i64 m.P.K,.int .i64 m.P.H,.int .i64 m.P.S,.int .i64 m.extra,.slice Ad nd cd,.slice Ao no co,.int .i64 s,.int .i64 m.next,.int .i64 m.P.K,.int .i64 m.P.H,.int .i64 m.P.S,.int .i64 m.extra,.slice Ae ne ce,.slice Aq nq cq,.int .i64 wm.seq,.int .i64 wm.next,.int .i64 wm.P.K,.int .i64 wm.P.H,.int .i64 wm.P.S,.int .i64 wm.extra,.slice Ad0 nd0 cd0,.slice Ao0 no0 co0] 28)) w8.heap.size 28 [.int .i64 m.seq,.int .i64 m.next,.int .i64 m.P.K,.int .i64 m.P.H,.int .i64 m.P.S,.int .i64 m.extra,.slice Ad nd cd,.slice Ao no co,.int .i64 s,.int .i64 m.next,.int .i64 m.P.K,.int .i64 m.P.H,.int .i64 m.P.S,.int .i64 m.extra,.slice Ae ne ce,.slice Aq nq cq,.int .i64 wm.seq,.int .i64 wm.next,.int .i64 wm.P.K,.int .i64 wm.P.H,.int .i64 wm.P.S,.int .i64 wm.extra,.slice Ad0 nd0 cd0,.slice Ao0 no0 co0]:=Row.new w8 28 #[.int .i64 m.seq,.int .i64 m.next,.int .i64 m.P.K,.int .i64 m.P.H,.int .i64 m.P.S,.int .i64 m.extra,.slice Ad nd cd,.slice Ao no co,.int .i64 s,.int .i64 m.next,.int .i64 m.P.K,.int .i64 m.P.H,.int .i64 m.P.S,.int .i64 m.extra,.slice Ae ne ce,.slice Aq nq cq,.int .i64 wm.seq,.int .i64 wm.next,.int .i64 wm.P.K,.int .i64 wm.P.H,.int .i64 wm.P.S,.int .i64 wm.extra,.slice Ad0 nd0 cd0,.slice Ao0 no0 co0]
    have hrow:∀ k,k < 3→InRowT (w8.alloc (.cells #[.int .i64 m.seq,.int .i64 m.next,.int .i64 m.P.K,.int .i64 m.P.H,.int .i64 m.P.S,.int .i64 m.extra,.slice Ad nd cd,.slice Ao no co,.int .i64 s,.int .i64 m.next,.int .i64 m.P.K,.int .i64 m.P.H,.int .i64 m.P.S,.int .i64 m.extra,.slice Ae ne ce,.slice Aq nq cq,.int .i64 wm.seq,.int .i64 wm.next,.int .i64 wm.P.K,.int .i64 wm.P.H,.int .i64 wm.P.S,.int .i64 wm.extra,.slice Ad0 nd0 cd0,.slice Ao0 no0 co0] 28)) w8.heap.size k:=by
     intro k hk;have hk3:k=0∨k=1∨k=2:=by omega
     rcases hk3 with rfl | rfl | rfl
     ·exact ⟨m,Ad,nd,cd,Ao,no,co,ts,(HM8.out.below hb89).mono hb89.size,HLT.out.more (by omega),hr24.cell 0,hr24.cell 1,hr24.cell 2,hr24.cell 3,hr24.cell 4,hr24.cell 5,hr24.cell 6,hr24.cell 7⟩
     ·exact ⟨bump m s,Ae,ne,ce,Aq,nq,cq,tq,(HN8'.out.below hb89).mono hb89.size,HLY.out,hr24.cell 8,hr24.cell 9,hr24.cell 10,hr24.cell 11,hr24.cell 12,hr24.cell 13,hr24.cell 14,hr24.cell 15⟩
     ·exact ⟨wm,Ad0,nd0,cd0,Ao0,no0,co0,ts0,(HW8.out.below hb89).mono hb89.size,HLW.out,hr24.cell 16,hr24.cell 17,hr24.cell 18,hr24.cell 19,hr24.cell 20,hr24.cell 21,hr24.cell 22,hr24.cell 23⟩
    have HROW:=hid hrow;have HB89:=hid hb89;have HH9:=hid (HH8.out.new_ hb89);clear hrow hr24 hb89;go_wp2_with fail;clear x0 x1 x2 x3 x4 x5 x6 x7 y0 y1 y2 y3 y4 y5 y6 y7 z0 z1 z2 z3 z4 z5 z6 z7;generalize w8.alloc (.cells #[.int .i64 m.seq,.int .i64 m.next,.int .i64 m.P.K,.int .i64 m.P.H,.int .i64 m.P.S,.int .i64 m.extra,.slice Ad nd cd,.slice Ao no co,.int .i64 s,.int .i64 m.next,.int .i64 m.P.K,.int .i64 m.P.H,.int .i64 m.P.S,.int .i64 m.extra,.slice Ae ne ce,.slice Aq nq cq,.int .i64 wm.seq,.int .i64 wm.next,.int .i64 wm.P.K,.int .i64 wm.P.H,.int .i64 wm.P.S,.int .i64 wm.extra,.slice Ad0 nd0 cd0,.slice Ao0 no0 co0] 28)=w9 at*;obtain ⟨gs,hgs⟩:∃ g,w8.heap.size=g:=⟨_,rfl⟩;have HGS:=hid hgs
    rw [hgs] at HROW ⊢;clear hgs;have HB39:=hid (HB38.out.trans (HB89.out.mono HB38.out.size));go_loopw [69] (fun i wr=>∃ k:Nat,k≤3∧i= .int .i64 (k:Int)∧Below w9.heap.size w9 wr) (fun i _=>3 - (intOf i).toNat)
    case atStart=>exact ⟨0,by omega,rfl,Below.refl _ _⟩
    case round=>
     obtain ⟨k,hk,rfl,hbw⟩:=hrel;by_cases hlt:k < 3
     ·have hk3:(k:Int) < 3:=by omega
      obtain ⟨mk,Ak,nk,ck,Aok,nok,cok,tsk,hrk,hlk,r0,r1,r2,r3,r4,r5,r6,r7⟩:=HROW.out k hlt;have s0:=Zz00 hbw r0;have s1:=Zz00 hbw r1;have s2:=Zz00 hbw r2;have s3:=Zz00 hbw r3;have s4:=Zz00 hbw r4;have s5:=Zz00 hbw r5;have s6:=Zz00 hbw r6;have s7:=Zz00 hbw r7;have HRK0:=hid ((hrk.below hbw).mono hbw.size);have HLK:=hid hlk;have HNK:=hid (show ∀ e∈mk.objs,e.name.length≤1048576 from fun e he=>ZnT (hlk.nm e he) (by omega));have hnok:nok≤2000:=by rw [← hrk.o.len];exact hlk.ol
      have HBW:=hid hbw;obtain ⟨bw,hbm⟩:∃ b,wholeM mk ls=b:=⟨_,rfl⟩;have HBW0:=hid hbm;obtain ⟨qn,hqn⟩:∃ q,(keepL mk ls).length=q:=⟨_,rfl⟩;have hq9:qn≤100:=by rw [← hqn];unfold keepL;rw [List.length_append,List.length_map];have:=Zz18 mk;have:=Zz3h mk ls;have:=HLL.out;omega
      have HQN:=hid hqn;clear hrk hlk r0 r1 r2 r3 r4 r5 r6 r7 hbw hbm hqn;have hxq:=Row.new wr 28 #[.int .i64 mk.seq,.int .i64 mk.next,.int .i64 mk.P.K,.int .i64 mk.P.H,.int .i64 mk.P.S,.int .i64 mk.extra,.slice Ak nk ck,.slice Aok nok cok];have hbq:Below wr.heap.size wr (wr.alloc (.cells #[.int .i64 mk.seq,.int .i64 mk.next,.int .i64 mk.P.K,.int .i64 mk.P.H,.int .i64 mk.P.S,.int .i64 mk.extra,.slice Ak nk ck,.slice Aok nok cok] 28)):=(Below.refl _ _).alloc (ZnR _) _;have HRK:=hid ((HRK0.out.below hbq).mono hbq.size);have HBq:=hid (HBW.out.trans (hbq.mono HBW.out.size));have HHq:=hid (HH9.out.new_ HBq.out);have HBW:=hid (show wholeM mk (fillD 60 ls 0).L=bw from HBW0.out);have hr0:=hxq
      obtain ⟨x0,x1,x2,x3,x4,x5,x6,x7⟩:=Row.c8 hr0;clear hr0;clear hxq hbq HRK0;have hbne:(bw !=bw)=false:=by simp
      go_upto_region 18 with fail;clear s0 s1 s2 s3 s4 s5 s6 s7;generalize wr.alloc (.cells #[.int .i64 mk.seq,.int .i64 mk.next,.int .i64 mk.P.K,.int .i64 mk.P.H,.int .i64 mk.P.S,.int .i64 mk.extra,.slice Ak nk ck,.slice Aok nok cok] 28)=wq at*;obtain ⟨gq,hgq⟩:∃ g,wr.heap.size=g:=⟨_,rfl⟩;rw [hgq] at x0 x1 x2 x3 x4 x5 x6 x7 ⊢;clear hgq;refine Org.begin [] (fun w'=>Below wq.heap.size wq w') [0,1,3,4,2,5,6,7,8,9,10,12,13,11,14,15,16,17,18,19,21,22,20,23,24,25,26] (by kernel_rfl) (Zz01 (Below.refl _ _) 1) (fun hS=> ?_);(refine Org.yV (SM.of hS) ?_;try simp only [aS,aN,aA,a0,a1])
      (refine Org.yA (v:= ?_) (SM.of hS) ?_ ?_;rotate_left;(focus (intro w hSw;(try dsimp only at hSw);have qx0:=Zz00 hSw x0;have qx1:=Zz00 hSw x1;have qx2:=Zz00 hSw x2;have qx3:=Zz00 hSw x3;have qx4:=Zz00 hSw x4;have qx5:=Zz00 hSw x5;have qx6:=Zz00 hSw x6;have qx7:=Zz00 hSw x7;refine Pure.val ?_;go_simp;(try with_reducible rfl);done));try simp only [aS,aN,aA,a0,a1]);(refine Org.yV (SM.of hS) ?_;try simp only [aS,aN,aA,a0,a1])
      (refine Org.yA (v:= ?_) (SM.of hS) ?_ ?_;rotate_left;(focus (intro w hSw;(try dsimp only at hSw);have qx0:=Zz00 hSw x0;have qx1:=Zz00 hSw x1;have qx2:=Zz00 hSw x2;have qx3:=Zz00 hSw x3;have qx4:=Zz00 hSw x4;have qx5:=Zz00 hSw x5;have qx6:=Zz00 hSw x6;have qx7:=Zz00 hSw x7;refine Pure.val ?_;go_simp;(try with_reducible rfl);done));try simp only [aS,aN,aA,a0,a1]);refine Org.gA fun K hK=> ?_
      go_simp;go_at_call 14;refine (Zz32 F g pg _ 0 mk _ Ak Aok nk ck nok cok tsk _ ((HHq.out.new_ hS).d_) HHq.out.okd ((HRK.out.below hS).mono hS.size) (ZnR _) (by omega)).mono ?_;rintro e u1 ⟨A75,n75,c75,xs,rfl,hn5,ho5,hmap,hbk⟩;rw [show (fillD 60 ls 0).L=ls from rfl] at hn5 hmap;have HXA:=hid (ho5.reads (by rw [hn5,← hmap,List.length_map]));have HNA:=hid hn5;have HMA:=hid hmap;clear ho5 hmap hn5;have hS3:=hS.trans (hbk.mono hS.size);clear hbk;go_wp2_with fail;refine hK.out _ _ hS3 (fun hS2=> ?_);clear hS3;clear hK K hS;have hS:=hS2;clear hS2;try simp only [aS,aN,aA,a0,a1]
      refine Org.gA fun K hK=> ?_
      go_simp;go_at_call 15;refine (Zz4o G gr qg _ 0 mk _ Ak Aok nk ck nok cok tsk _ ((HHq.out.new_ hS).r_) HHq.out.okr ((HRK.out.below hS).mono hS.size) (ZnR _) (by omega)).mono ?_;rintro e u2 ⟨A78,n78,c78,ys,rfl,hn5,hc5,ho5,hmap,hbk⟩;rw [show (fillD 60 ls 0).L=ls from rfl] at hn5 hmap;have HXA2:=hid (HXA.out.up hbk);have HYA:=hid ho5;have HNB:=hid hn5;have HMB:=hid hmap;clear ho5 hmap hn5 hc5;have hS3:=hS.trans (hbk.mono hS.size);clear hbk;go_wp2_with fail;refine hK.out _ _ hS3 (fun hS2=> ?_);clear hS3;clear hK K hS;have hS:=hS2;clear hS2;try simp only [aS,aN,aA,a0,a1]
      refine Org.gA fun K hK=> ?_
      go_simp;go_at_call 13;have hrl:=Zz3h mk ls;refine (Zzcx _ A75 A78 n75 n78 c75 c78 xs ys true _ HXA2.out HYA.out (ZnR _) (by rw [HNA.out];have:=HLL.out;omega) (Zz8j HMA.out) (Zz8j HMB.out) (decide_eq_true (by rw [HMA.out,HMB.out]))).mono ?_;rintro e u3 ⟨rfl,hbk⟩;clear hrl;have hS3:=hS.trans (hbk.mono hS.size);clear hbk;go_wp2_with fail;refine hK.out _ _ hS3 (fun hS2=> ?_);clear hS3;clear hK K hS;have hS:=hS2;clear hS2;try simp only [aS,aN,aA,a0,a1]
      iterate 3 (refine Org.yV (SM.of hS) ?_;try simp only [aS,aN,aA,a0,a1])
      (refine Org.yA (v:= ?_) (SM.of hS) ?_ ?_;rotate_left;(focus (intro w hSw;(try dsimp only at hSw);have qx0:=Zz00 hSw x0;have qx1:=Zz00 hSw x1;have qx2:=Zz00 hSw x2;have qx3:=Zz00 hSw x3;have qx4:=Zz00 hSw x4;have qx5:=Zz00 hSw x5;have qx6:=Zz00 hSw x6;have qx7:=Zz00 hSw x7;refine Pure.val ?_;go_simp;(try with_reducible rfl);done));try simp only [aS,aN,aA,a0,a1]);(refine Org.yV (SM.of hS) ?_;try simp only [aS,aN,aA,a0,a1])
      (refine Org.yA (v:= ?_) (SM.of hS) ?_ ?_;rotate_left;(focus (intro w hSw;(try dsimp only at hSw);have qx0:=Zz00 hSw x0;have qx1:=Zz00 hSw x1;have qx2:=Zz00 hSw x2;have qx3:=Zz00 hSw x3;have qx4:=Zz00 hSw x4;have qx5:=Zz00 hSw x5;have qx6:=Zz00 hSw x6;have qx7:=Zz00 hSw x7;refine Pure.val ?_;go_simp;(try with_reducible rfl);done));try simp only [aS,aN,aA,a0,a1]);refine Org.gA fun K hK=> ?_
      go_simp;go_at_call 16;refine (Zz90 F g pg _ 0 mk _ Ak Aok nk ck nok cok tsk bw _ ((HHq.out.new_ hS).d_) HHq.out.okd ((HRK.out.below hS).mono hS.size) (ZnR _) HLK.out.m64 HNK.out HBW.out).mono ?_;rintro e u4 ⟨rfl,hbk⟩;have hS3:=hS.trans (hbk.mono hS.size);clear hbk;go_wp2_with fail;refine hK.out _ _ hS3 (fun hS2=> ?_);clear hS3;clear hK K hS;have hS:=hS2;clear hS2;try simp only [aS,aN,aA,a0,a1]
      refine Org.gA fun K hK=> ?_
      go_simp;go_at_call 17;refine (Zz7e G gr qg _ 0 mk _ Ak Aok nk ck nok cok tsk bw _ ((HHq.out.new_ hS).r_) HHq.out.okr ((HRK.out.below hS).mono hS.size) (ZnR _) HLK.out.m64 HNK.out HBW.out).mono ?_;rintro e u5 ⟨rfl,hbk⟩;have hS3:=hS.trans (hbk.mono hS.size);clear hbk;go_wp2_with fail;refine hK.out _ _ hS3 (fun hS2=> ?_);clear hS3;clear hK K hS;have hS:=hS2;clear hS2;try simp only [aS,aN,aA,a0,a1]
      iterate 4 (refine Org.yV (SM.of hS) ?_;try simp only [aS,aN,aA,a0,a1])
      (refine Org.yA (v:= ?_) (SM.of hS) ?_ ?_;rotate_left;(focus (intro w hSw;(try dsimp only at hSw);have qx0:=Zz00 hSw x0;have qx1:=Zz00 hSw x1;have qx2:=Zz00 hSw x2;have qx3:=Zz00 hSw x3;have qx4:=Zz00 hSw x4;have qx5:=Zz00 hSw x5;have qx6:=Zz00 hSw x6;have qx7:=Zz00 hSw x7;refine Pure.val ?_;go_simp;(try with_reducible rfl);done));try simp only [aS,aN,aA,a0,a1]);(refine Org.yV (SM.of hS) ?_;try simp only [aS,aN,aA,a0,a1])
      (refine Org.yA (v:= ?_) (SM.of hS) ?_ ?_;rotate_left;(focus (intro w hSw;(try dsimp only at hSw);have qx0:=Zz00 hSw x0;have qx1:=Zz00 hSw x1;have qx2:=Zz00 hSw x2;have qx3:=Zz00 hSw x3;have qx4:=Zz00 hSw x4;have qx5:=Zz00 hSw x5;have qx6:=Zz00 hSw x6;have qx7:=Zz00 hSw x7;refine Pure.val ?_;go_simp;(try with_reducible rfl);done));try simp only [aS,aN,aA,a0,a1]);refine Org.gA fun K hK=> ?_
      go_simp;go_at_call 19;refine (Zzc2 F g pg _ 0 mk _ Ak Aok nk ck nok cok tsk _ ((HHq.out.new_ hS).d_) HHq.out.okd ((HRK.out.below hS).mono hS.size) (ZnR _) (by omega) HLK.out.m64 HNK.out).mono ?_;rintro e u6 ⟨A93,c93,v93,rfl,hok,hbk⟩;rw [show (fillD 60 ls 0).L=ls from rfl,HQN.out] at hok ⊢;have HKA:=hid (hok.read HQN.out);clear hok;have hS3:=hS.trans (hbk.mono hS.size);clear hbk;go_wp2_with fail;refine hK.out _ _ hS3 (fun hS2=> ?_);clear hS3;clear hK K hS;have hS:=hS2;clear hS2;try simp only [aS,aN,aA,a0,a1]
      refine Org.gA fun K hK=> ?_
      go_simp;go_at_call 20;refine (Zza7 G gr qg _ 0 mk _ Ak Aok nk ck nok cok tsk _ ((HHq.out.new_ hS).r_) HHq.out.okr ((HRK.out.below hS).mono hS.size) (ZnR _) (by omega) HLK.out.m64 HNK.out).mono ?_;rintro e u7 ⟨A96,c96,v96,rfl,hok,hbk⟩;rw [show (fillD 60 ls 0).L=ls from rfl,HQN.out] at hok ⊢;have HKB:=hid (hok.read HQN.out);have HKA2:=hid ((HKA.out.below hbk).mono hbk.size);clear hok;have hS3:=hS.trans (hbk.mono hS.size);clear hbk;go_wp2_with fail;refine hK.out _ _ hS3 (fun hS2=> ?_);clear hS3;clear hK K hS;have hS:=hS2;clear hS2;try simp only [aS,aN,aA,a0,a1]
      refine Org.gA fun K hK=> ?_
      go_simp;go_at_call 18;refine (Zzfu true _ A93 A96 v93 v96 (keepL mk ls) (keepL mk ls) qn qn c93 c96 _ HKA2.out HKB.out (by omega) (by omega) (decide_eq_true rfl)).mono ?_;rintro e UU ⟨rfl,dd,rfl⟩;have hS3:=Zz01 hS dd;go_wp2_with fail;refine hK.out _ _ hS3 (fun hS2=> ?_);clear hS3;clear hK K hS;have hS:=hS2;clear hS2;try simp only [aS,aN,aA,a0,a1]
      iterate 2 (refine Org.yV (SM.of hS) ?_;try simp only [aS,aN,aA,a0,a1])
      refine Org.done (by kernel_rfl) ?_;have HSE:=hid hS;clear hS;clear hbne;have HBE9:=hid (HBq.out.trans (HSE.out.mono HBq.out.size));go_wp2_with fail;go_roundw
      case rel=>exact ⟨k+1,by omega,by go_num,HBE9.out⟩
      case measure=>simp [intOf];omega
     ·have hk3:¬ (k:Int) < 3:=by omega
      obtain ⟨we,hwe⟩:∃ x,x=wr:=⟨_,rfl⟩;subst hwe;have HBW:=hid hbw;have HHe:=hid (HH9.out.new_ hbw);clear hbw;obtain ⟨lv,lvs,bv,bvs,hr⟩:=HHe.out.r_;obtain ⟨Al,cl,rfl,hlc,hlc2⟩:=hr.l.own.form;obtain ⟨nl,hn⟩:∃ n,ls.length=n:=⟨_,rfl⟩;have hrd:=hr.l.own.read rfl;rw [show (fillD 60 ls 0).L=ls from rfl] at hr hlc hrd;rw [hn] at hr hlc hrd;have c2r:we.cell? ⟨gr,2,none⟩=some (.slice Al nl cl):=hr.row.cell 2;have hnl46:nl≤46:=by rw [← hn];exact HLL.out
      have HRL:=hid hrd;clear hr hrd hn;go_upto_region 21 with fail;refine Org.begin [] (fun w'=>Below we.heap.size we w') [0,2,3,4,5,1,6,7,8,9,10,11] (by kernel_rfl) (Zz01 (Below.refl _ _) 1) (fun hS=> ?_);iterate 4 (refine Org.yV (SM.of hS) ?_;try simp only [aS,aN,aA,a0,a1])
      (refine Org.yA (v:= ?_) (SM.of hS) ?_ ?_;rotate_left;(focus (intro w hSw;(try dsimp only at hSw);have qc2:=Zz00 hSw c2r;refine Pure.val ?_;go_simp;(try with_reducible rfl);done));try simp only [aS,aN,aA,a0,a1]);refine Org.gA fun K hK=> ?_
      go_simp;go_at_call 22;refine (Zz6j F g pg _ 0 _ ((HHe.out.new_ hS).d_) HHe.out.okd).mono ?_;rintro e v1 ⟨Aj,nj,cj,xj,rfl,hnj,hcj,hoj,hxj,hbk⟩;rw [show (fillD 60 ls 0).L=ls from rfl] at hnj hxj;have hxl:xj.length=nj:=by rw [← List.length_map (f:=MD.m),hxj,hnj]
      have HJA:=hid (hoj.read hxl);have HXJ:=hid hxj;have HNJ:=hid hnj;clear hnj hcj hoj hxj hxl;have hS3:=hS.trans (hbk.mono hS.size);clear hbk;go_wp2_with fail;refine hK.out _ _ hS3 (fun hS2=> ?_);clear hS3;clear hK K hS;have hS:=hS2;clear hS2;try simp only [aS,aN,aA,a0,a1]
      refine Org.gA fun K hK=> ?_
      go_simp;go_at_call 23;refine (Zzel _ Al nl cl lvs ls _ ((HRL.out.below hS).mono hS.size) (ZnR _) (by omega) HL48.out).mono ?_;rintro e v2 ⟨Ar,nr,cr,xr,rfl,hnr,hcr,hrr,hxr,hbk⟩;rw [Zzhb _ fit255] at hxr hnr;have HJA2:=hid (HJA.out.up hbk);have HRR:=hid hrr;have HXR:=hid hxr;have HNR:=hid hnr;clear hnr hcr hrr hxr;have hS3:=hS.trans (hbk.mono hS.size);clear hbk;go_wp2_with fail;refine hK.out _ _ hS3 (fun hS2=> ?_);clear hS3;clear hK K hS;have hS:=hS2;clear hS2;try simp only [aS,aN,aA,a0,a1]
      refine Org.gA fun K hK=> ?_
      go_simp;go_at_call 21;have hjl:(joinL ls).length≤1048576:=ZnT (Zze4 _) (by have:=HLL.out;omega);refine (Zzds _ Aj Ar nj cj nr cr xj xr true _ HJA2.out HRR.out (ZnR _) (by rw [HNJ.out];exact hjl) (by rw [HNR.out];exact hjl) ⟨fun _=>by rw [HXJ.out,HXR.out],fun _=>rfl⟩).mono ?_;rintro e v3 ⟨rfl,hbk⟩;clear hjl;have hS3:=hS.trans (hbk.mono hS.size);clear hbk;go_wp2_with fail;refine hK.out _ _ hS3 (fun hS2=> ?_);clear hS3;clear hK K hS;have hS:=hS2;clear hS2;try simp only [aS,aN,aA,a0,a1]
      (refine Org.yV (SM.of hS) ?_;try simp only [aS,aN,aA,a0,a1]);refine Org.gA fun K hK=> ?_
      go_simp;go_at_call 6;refine (wakes23 _).mono ?_;rintro e v4 ⟨rfl,hbk⟩;have hS3:=hS.trans (hbk.mono hS.size);clear hbk;go_wp2_with fail;refine hK.out _ _ hS3 (fun hS2=> ?_);clear hS3;clear hK K hS;have hS:=hS2;clear hS2;try simp only [aS,aN,aA,a0,a1]
      iterate 2 (refine Org.yV (SM.of hS) ?_;try simp only [aS,aN,aA,a0,a1])
      refine Org.done (by kernel_rfl) ?_;have HSE21:=hid hS;clear hS;have hb3e:=HB39.out.trans ((HBW.out.trans (HSE21.out.mono HBW.out.size)).mono HB39.out.size);have hb1e:=HB13.out.trans (hb3e.mono HB13.out.size);have hbe:Below w.heap.size w _:=HB1.out.trans (hb1e.mono HB1.out.size);go_wp2_with fail;go_ret
      refine ⟨?_,hbe⟩;go_simp
end Go.Proofs.YtnknjeipfjdjoaaGreatDoor
