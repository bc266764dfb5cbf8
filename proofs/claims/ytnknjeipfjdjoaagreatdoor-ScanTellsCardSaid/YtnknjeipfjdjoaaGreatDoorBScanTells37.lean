/- Gather Gather2 -/
import Derived.BigGuardPart
import Derived.Deep.DeepCutAuto
import Derived.Test.YtnknjeipfjdjoaaGreatDoorBScanTells33
import Derived.Test.YtnknjeipfjdjoaaGreatDoorBScanTells35
set_option maxHeartbeats 8000000
set_option maxRecDepth 20000
set_option linter.unusedSimpArgs false
set_option linter.unusedVariables false
namespace Go.Proofs.YtnknjeipfjdjoaaGreatDoor
open Go.RowKit Wells
theorem Zzgw (p q:Pg) (pd pc qd qc:Value) (gf gi n:Nat) (b:Bool) (w:World) (hf:Row w gf 128 [.int .i64 p.seq,.int .i64 p.at_,.int .i64 p.of_,pd,pc]) (hi:Row w gi 3 [.int .i64 (n:Int)]) (hb:pgIs p n q=b):
  Calls Tryz.prog 122 #[q.val qd qc,.pointer (some ⟨gf,0,none⟩),.pointer (some ⟨gi,0,none⟩)] w fun e w'=>e= .returned (.bool b)∧Below w.heap.size w w':=by
 obtain ⟨p0,p1,p2,pb,pl⟩:=p;obtain ⟨q0,q1,q2,qb,ql⟩:=q;have hb1:Below w.heap.size w (w.alloc (.cells #[.int .i64 q0,.int .i64 q1,.int .i64 q2,qd,qc] 128)):=(Below.refl _ _).alloc (ZnR _) _;have HB1:=hid hb1;have hf1:=hf.below hb1 hf.lt;have hi1:=hi.below hb1 hi.lt;have f0:=hf1.cell 0;have f2:=hf1.cell 2;have i0:=hi1.cell 0;simp only [ZgS,ZgZ] at f0 f2 i0;unfold pgIs at hb;dsimp only at hb f0 f2;have HB:=hid hb;clear hf hi hf1 hi1 hb1 hb;unfold Pg.val;dsimp only;by_cases h1:q0=p0
 ·subst h1
  by_cases h2:q2=p2
  ·subst h2
   have hv:decide (q1=(n:Int))=b:=by rw [← HB.out];simp
   have HV:=hid hv;clear hv;go_enter Tryz.func122,Tryz.ntmps122;go_wp2_with fail;go_ret
   exact ⟨Zz0a HV.out,HB1.out⟩
  ·have hv:false=b:=by rw [← HB.out];simp [h2]
   have HV:=hid hv;clear hv;go_enter Tryz.func122,Tryz.ntmps122;go_wp2_with fail;go_ret
   exact ⟨Zz0a HV.out,HB1.out⟩
 ·have hv:false=b:=by rw [← HB.out];simp [h1]
  have HV:=hid hv;clear hv;go_enter Tryz.func122,Tryz.ntmps122;go_wp2_with fail;go_ret
  exact ⟨Zz0a HV.out,HB1.out⟩
def IdxR (p:Pg) (k:Nat) (xs:List PD) (w:World) (e:Ending) (w':World):Prop:=
 ∃ z:Int,e= .returned (.int .i64 z)∧Below w.heap.size w w'∧((z= -1∧(xs.map PD.p).find? (pgIs p k)=none)∨∃ i:Nat,i < xs.length∧z=(i:Int)∧(xs.map PD.p).find? (pgIs p k)=some xs[i]!.p)
theorem Zze2 {p:Pg} {k:Nat} {xs:List PD} (h:∀ j,j < xs.length→pgIs p k xs[j]!.p=false):(xs.map PD.p).find? (pgIs p k)=none:=by
 rw [List.find?_eq_none];intro x hx;obtain ⟨y,hy,rfl⟩:=List.mem_map.1 hx;obtain ⟨j,hj,rfl⟩:=List.mem_iff_getElem.1 hy;have:=h j hj
 rw [getElem!_pos xs j hj] at this;rw [this];simp
theorem Zz9g {p:Pg} {k:Nat}:∀ {xs:List PD} {i:Nat},i < xs.length→(∀ j,j < i→pgIs p k xs[j]!.p=false)→pgIs p k xs[i]!.p=true→(xs.map PD.p).find? (pgIs p k)=some xs[i]!.p
 | [],i,h,_,_=>absurd h (by simp)
 | x::xs,0,_,_,h2=>by
  have e:(x::xs)[0]! =x:=rfl;rw [e] at h2 ⊢;simp [h2]
 | x::xs,i+1,h,h1,h2=>by
  have h0:=h1 0 (by omega);have e:(x::xs)[0]! =x:=rfl;rw [e] at h0;have e2:∀ j,(x::xs)[j+1]! =xs[j]! :=fun j=>by simp
  rw [e2] at h2 ⊢;rw [List.map_cons,List.find?_cons_of_neg (by simp [h0])];exact Zz9g (by simpa using h) (fun j hj=>by have:=h1 (j+1) (by omega);rwa [e2] at this) h2
theorem Zzdi (p:Pg) (pd pc:Value) (k B:Nat) (A:Option Addr) (n c:Nat) (xs:List PD) (gf gi:Nat) (w:World) (h:RPs w B A n xs) (hB:B≤w.heap.size) (hn:n≤9223372036854775807) (hf:Row w gf 128 [.int .i64 p.seq,.int .i64 p.at_,.int .i64 p.of_,pd,pc]) (hi:Row w gi 3 [.int .i64 (k:Int)]):
  Calls Tryz.prog 121 #[.slice A n c,.func (Fn.func 122) #[] #[.pointer (some ⟨gf,0,none⟩),.pointer (some ⟨gi,0,none⟩)]] w (IdxR p k xs w):=by
 have HL:=hid h.len;have H:=hid h;have HF:=hid hf;have HI:=hid hi;clear h hf hi;go_enter Tryz.func121,Tryz.ntmps121;go_wp2_with fail;go_loopw [8] (fun i wr=>∃ j:Nat,j≤n∧i= .int .i64 j∧Below w.heap.size w wr∧Hid (∀ q,q < j→pgIs p k xs[q]!.p=false)) (fun i _=>n - (intOf i).toNat)
 case atStart=>exact ⟨0,Nat.zero_le _,rfl,Below.refl _ _,hid (fun j hj=>absurd hj (by omega))⟩
 case round=>
  obtain ⟨j,hj,rfl,hbr,HK⟩:=hrel;have hzr:=hbr.size;by_cases hlt:j < n
  ·obtain ⟨bb,o,rfl,hbb,hxm,_,hcells⟩:=(H.out.below (hbr.mono hB)).get hlt
   obtain ⟨x,hx⟩:∃ x,xs[j]! =x:=⟨_,rfl⟩;have HXX:=hid hx;rw [hx] at hxm hcells;have c0:=hcells 0 _ rfl;have c1:=hcells 1 _ rfl;have c2:=hcells 2 _ rfl;have c3:=hcells 3 _ rfl;have c4:=hcells 4 _ rfl;simp only [Nat.add_zero] at c0 c1 c2 c3 c4;have HFR:=hid (HF.out.below hbr HF.out.lt);have HIR:=hid (HI.out.below hbr HI.out.lt);obtain ⟨q,hq⟩:∃ q,pgIs p k x.p=q:=⟨_,rfl⟩;have HQ:=hid hq;clear hx hcells hq;go_wp2_with fail;refine (Zzgw p x.p pd pc x.d x.c gf gi k q wr HFR.out HIR.out HQ.out).mono ?_;rintro e w3 ⟨rfl,hb3⟩;have hb4:=hbr.trans (hb3.mono hzr);have HB4:=hid hb4;clear hb3 hb4 c0 c1 c2 c3 c4;cases q with
   | true=>
    go_wp2_with fail;go_ret
    exact ⟨(j:Int),rfl,HB4.out,.inr ⟨j,by rw [HL.out];exact hlt,rfl,Zz9g (by rw [HL.out];exact hlt) HK.out (by rw [HXX.out];exact HQ.out)⟩⟩
   | false=>
    go_wp2_with fail;go_roundw
    case rel=>exact ⟨j+1,by omega,by go_num,HB4.out,hid (fun q hq=>by
     rcases Nat.lt_or_ge q j with h | h
     ·exact HK.out q h
     ·have e:q=j:=by omega
      rw [e,HXX.out];exact HQ.out)⟩
    case measure=>simp [intOf];omega
  ·obtain rfl:j=n:=by omega
   have hno:=Zze2 (p:=p) (k:=k) (xs:=xs) (fun q hq=>HK.out q (by rw [HL.out] at hq;exact hq));have HNO:=hid hno;clear hno;go_wp2_with fail;go_ret
   exact ⟨-1,rfl,hbr,.inl ⟨rfl,HNO.out⟩⟩
end Go.Proofs.YtnknjeipfjdjoaaGreatDoor
namespace Wells
open Go Go.RowKit
theorem Zzcg {L:List Pg} {f:Pg} {k:Nat} (h:(docG L f k).length=k+1) (ho:f.of_=(k:Int)+1):gatherL L f=some (docG L f k):=by
 have e:(f.of_ - 1).toNat=k:=by omega
 unfold gatherL;rw [e,if_pos ⟨by omega,by omega⟩]
theorem Zzcf {L:List Pg} {f:Pg} (h:f.of_≤0):gatherL L f=none:=by
 unfold gatherL;rw [if_neg (by omega)]
theorem Zzdv {L:List Pg} {f:Pg} {k:Nat} (h:(docG L f (k+1)).length < k+2) (ho:(k:Int)+2≤f.of_):gatherL L f=none:=by
 have h1:=Zz6m h (f.of_ - 1).toNat (by omega);unfold gatherL;rw [if_neg (by omega)]
theorem Zze7 {L:List Pg} {f:Pg} {k:Nat} (h:L.find? (pgIs f (k+1))=none) (hl:(docG L f k).length=k+1):(docG L f (k+1)).length < k+2:=by
 unfold docG;rw [h];simp [hl]
theorem Zz8n {L:List Pg} {f q:Pg} {k:Nat} (h:L.find? (pgIs f (k+1))=some q):docG L f (k+1)=docG L f k++ [q]:=by
 rw [docG,h];rfl
end Wells
namespace Go.Proofs.YtnknjeipfjdjoaaGreatDoor
open Go.RowKit Wells
theorem World.grownBy_setCell8 (w:World) (g i:Nat) (x:Value):w.grownBy (w.setCell ⟨g,i,none⟩ x) (some g):=⟨rfl,rfl,rfl,by simp [World.setCell],fun k _ hne=>Below.heap_setCell w ⟨g,i,none⟩ x k (fun e=>hne (by rw [e]))⟩
theorem Zzhx {w:World} {base size n g:Nat} {e t:TypeId} {v:Value} {xs cs:List Value} (h:w.ownsRow base e size v n xs) (hr:Row w g t cs) (hne:e≠t):v.ownBlock=none∨v.ownBlock≠some g:=Zz2i h hr hne
def GatR (T:Option (List Pg)) (w:World) (e:Ending) (w':World):Prop:=
 ∃ (A:Option Addr) (n c:Nat) (ys:List PD) (b:Bool),e= .returned (.tuple #[.slice A n c,.bool b])∧(n≤c∧c≤9223372036854775807)∧n≤256∧RPs w' w'.heap.size A n ys∧Below w.heap.size w w'∧(b=false→T=none)∧(b=true→T=some (ys.map PD.p))
theorem Zzh1 {base B:Nat} {w:World} {A:Option Addr} {n c:Nat} {ys:List PD} (h:w.ownsRow base 128 5 (.slice A n c) n (ys.flatMap encP)) (hn:ys.length=n) (hB:B≤w.heap.size) (ha:∀ y∈ys,PDR w B y):RPs w w.heap.size A n ys:=
 ⟨Sl.own h,hn,fun y hy=>(ha y hy).mono hB⟩
theorem Zzb0 (B:Nat) (A:Option Addr) (n c:Nat) (xs:List PD) (x0:PD) (w:World) (h:RPs w B A n xs) (hB:B≤w.heap.size) (hn:n≤1048576) (h0:PDR w B x0) (ho:0≤x0.p.of_∧x0.p.of_≤255):
  Calls Tryz.prog 101 #[.slice A n c,x0.p.val x0.d x0.c] w (GatR (gatherL (xs.map PD.p) x0.p) w):=by
 have hb1:Below w.heap.size w (w.alloc (.cells #[.int .i64 x0.p.seq,.int .i64 x0.p.at_,.int .i64 x0.p.of_,x0.d,x0.c] 128)):=(Below.refl _ _).alloc (ZnR _) _;have hr1:=Row.new w 128 #[.int .i64 x0.p.seq,.int .i64 x0.p.at_,.int .i64 x0.p.of_,x0.d,x0.c];have H1:=hid (h.below (hb1.mono hB));have HP1:=hid (h0.below (hb1.mono hB));have HB1:=hid hb1;have HR1:=hid hr1;have HBw:=hid (ZnT hB hb1.size);obtain ⟨TT,hT⟩:∃ T,gatherL (xs.map PD.p) x0.p=T:=⟨_,rfl⟩;rw [hT];have HT:=hid hT;obtain ⟨ip,hip,hzp0,hzp1,hzp2⟩:=info_parts infoPg;clear h h0 hb1 hr1 hT;unfold Pg.val;go_enter Tryz.func101,Tryz.ntmps101;go_upto_region 1 with fail
 generalize w.alloc (.cells #[.int .i64 x0.p.seq,.int .i64 x0.p.at_,.int .i64 x0.p.of_,x0.d,x0.c] 128)=w1 at*;obtain ⟨gf,hgf⟩:∃ g,w.heap.size=g:=⟨_,rfl⟩;have HGF:=hid (show gf < w1.heap.size by rw [← hgf];exact HR1.out.lt);rw [hgf] at HR1 ⊢;clear hgf;have f0:=HR1.out.cell 0;have f1:=HR1.out.cell 1;have f2:=HR1.out.cell 2;have f3:=HR1.out.cell 3;have f4:=HR1.out.cell 4;simp only [ZgS,ZgZ] at f0 f1 f2 f3 f4
 go_wp2_with ((with_reducible show wpList _ _ _ (⟨some 10,_,_,_,_,_⟩::_) _ _);refine wpList_plain rfl (fun K hK=> ?_);refine Zz5g 126 128 (.tmp 9) rfl _ _ _ _ _ rfl ip _ _ _ _ _ Tryz.underlying126 hip hzp0 hzp1 ?_;rintro w2 g2 hg2 hr2 hb2 hz2;refine hK _ _ ?_;clear hK K;have HR2:=hid hr2;have HB2:=hid (show Below w1.heap.size w1 w2 by rw [← hg2] at hb2;exact hb2);have HG2:=hid (show w1.heap.size≤g2 by rw [← hg2];exact ZnR _);clear hr2 hb2 hg2 hz2)
 have hb3:Below w2.heap.size w2 (w2.alloc (.cells #[.int .i64 1] 3)):=(Below.refl _ _).alloc (ZnR _) _;have hr3:=Row.new w2 3 #[.int .i64 1];have HR3:=hid hr3;have HB3:=hid (HB2.out.trans (hb3.mono HB2.out.size));have HO3:=hid (Zz7r (base:=w1.heap.size) (HR2.out.below hb3 HR2.out.lt) rfl HG2.out);have HG3:=hid (show w1.heap.size≤w2.heap.size from HB2.out.size);clear hb3 hr3 f0 f1 f2 f3 f4;generalize w2.alloc (.cells #[.int .i64 1] 3)=w3 at*;obtain ⟨g3,hg3⟩:∃ g,w2.heap.size=g:=⟨_,rfl⟩;rw [hg3] at HR3 HG3 ⊢;clear hg3
 go_loopw [6,7] (fun ov iv wr=>∃ (k gi co:Nat) (Ao:Option Addr) (ys:List PD),k≤254∧(k=0∨(k:Int)+1≤x0.p.of_)∧ov= .slice Ao (k+1) co∧iv= .pointer (some ⟨gi,0,none⟩)∧Row wr gi 3 [.int .i64 ((k+1:Nat):Int)]∧wr.ownsRow w1.heap.size 128 5 (.slice Ao (k+1) co) (k+1) (ys.flatMap encP)∧w1.heap.size≤gi∧ys.length=k+1∧(∀ y∈ys,y=x0∨y∈xs)∧Hid (ys.map PD.p=docG (xs.map PD.p) x0.p k)∧Below w1.heap.size w1 wr) (fun ov _ _=>256 - lenOf ov)
 case atStart=>exact ⟨0,g3,1,some ⟨g2,0,none⟩, [x0],by omega,.inl rfl,rfl,rfl,HR3.out,HO3.out,HG3.out,rfl,fun y hy=> .inl (List.mem_singleton.1 hy),rfl,HB3.out⟩
 case round=>
  obtain ⟨k,gi,co,Ao,ys,hk,hko,rfl,rfl,hri,hown,hgi,hyl,hym,HF,hbr⟩:=hrel;have HOWN:=hid hown;have HRI:=hid hri;have HBR:=hid hbr;have HYM:=hid hym;have i0:=hri.cell 0;have hfr:=HR1.out.below hbr HR1.out.lt;have f2:=hfr.cell 2;simp only [ZgS,ZgZ] at i0 f2;have HFR:=hid hfr;have hdl:(docG (xs.map PD.p) x0.p k).length=k+1:=by rw [← HF.out,List.length_map,hyl]
  have HDL:=hid hdl;have HYL:=hid hyl;have hcc:=Zz14 hown;obtain ⟨kk,hkk⟩:∃ kk:Nat,k+1=kk:=⟨_,rfl⟩;rw [hkk] at i0 HRI HOWN HYL hcc ⊢;have HKK:=hid hkk;have hkk1:1≤kk∧kk≤255:=by omega
  obtain ⟨of_,hof⟩:∃ z,x0.p.of_=z:=⟨_,rfl⟩;rw [hof] at f2 hko ho;have HOF:=hid hof;have HKO:=hid (show k=0∨(kk:Int)≤of_ by omega);clear hri hown hbr hym hfr hdl hyl hkk hof hko;by_cases hlt:(kk:Int) < of_
  ·go_wp2_with fail
   refine (Zzdi x0.p x0.d x0.c kk B A n c xs gf gi wr (H1.out.below (HBR.out.mono HBw.out)) (ZnT HBw.out HBR.out.size) (by omega) HFR.out HRI.out).mono ?_;rintro e w4 ⟨z,rfl,hb4,hz⟩;have HB4:=hid (HBR.out.trans (hb4.mono HBR.out.size));have HRI4:=hid (HRI.out.below hb4 HRI.out.lt);have HOWN4:=hid (HOWN.out.kept (Zz02 hb4 none) (by cases (Value.slice Ao kk co).ownBlock <;> simp));have HGI4:=hid (Nat.lt_of_lt_of_le HRI.out.lt hb4.size);clear hb4 i0 f2;rcases hz with ⟨rfl,hno⟩ | ⟨i,hi,rfl,hyes⟩
   ·have hTN:TT=none:=by
     have hk2:=HKK.out;rw [← HT.out];subst hk2;exact Zzdv (Zze7 hno HDL.out) (by rw [HOF.out];omega)
    subst hTN;have hneg:(-1:Int) < 0:=by omega
    clear hno;go_wp2_with fail;go_ret2
    exact ⟨none,0,0, [],false,rfl,by omega,by omega,RPs.nil_ _ _,HB1.out.trans (HB4.out.mono HB1.out.size),fun _=>rfl,fun hh=>by cases hh⟩
   ·have hin:i < n:=by rw [← H1.out.len];exact hi
    have hi0:¬ (i:Int) < 0:=by omega
    obtain ⟨bb,o,rfl,hbb,hxm,_,hcells⟩:=(H1.out.below (HB4.out.mono HBw.out)).get hin;obtain ⟨x,hx⟩:∃ x,xs[i]! =x:=⟨_,rfl⟩;rw [hx] at hxm hcells hyes;have hk2:=HKK.out;have HDS:=hid (show docG (xs.map PD.p) x0.p kk=docG (xs.map PD.p) x0.p k++ [x.p] by subst hk2;exact Zz8n hyes);have HXM:=hid hxm;have hin':(i:Int) < (n:Int):=by omega
    have c0:=hcells 0 _ rfl;have c1:=hcells 1 _ rfl;have c2:=hcells 2 _ rfl;have c3:=hcells 3 _ rfl;have c4:=hcells 4 _ rfl;simp only [Nat.add_zero] at c0 c1 c2 c3 c4;clear hx hcells hyes hxm hk2;go_upto_region 9 with (first
     | ((with_reducible show wpList _ _ _ (⟨some 27,_,_,_,_,_⟩::_) _ _);refine wpList_plain rfl (fun K hK=> ?_);refine Zz5g 126 128 (.tmp 26) rfl _ _ _ _ _ rfl ip _ _ _ _ _ Tryz.underlying126 hip hzp0 hzp1 ?_;rintro w6 g6 hg6 hr6 hb6 hz6;refine hK _ _ ?_;clear hK K;subst hg6;have HR6:=hid hr6;have HB6:=hid (HB4.out.trans (hb6.mono HB4.out.size));have HOWN6:=hid (HOWN4.out.kept (Zz02 hb6 none) (by cases (Value.slice Ao kk co).ownBlock <;> simp));have HRI6:=hid (HRI4.out.below hb6 HRI4.out.lt);have hg6l:=hr6.lt;clear hr6 hb6 hz6)
     | ((with_reducible show wpList _ _ _ (⟨some 28,_,_,_,_,_⟩::_) _ _);go_must (refine Zz03 rfl (.tmp 22) (.tmp 27) 126 rfl w1.heap.size 128 ip _ 5 72 Tryz.underlying126 hip hzp0 hzp1 hzp2 rfl (by omega) (.slice Ao kk co) kk (ys.flatMap encP) rfl HOWN6.out w6.heap.size (some ⟨w4.heap.size,0,none⟩) 1 1 (encP x) rfl (Sl.own (Zz7r (base:=0) HR6.out rfl (Nat.zero_le _))) ((H1.out.at_ x HXM.out).one) (kk+1) rfl _ rfl (by omega) (by omega) HB6.out.size ?_);intro A7 c7 w7 ho7 hg7 _))
    have hb7:=Zz04 HB6.out HOWN6.out hg7 (ZnR _) HB6.out.size;have hri7:=Zz1i HRI6.out hg7 (Zz1y HOWN6.out) (by decide);have HO7:=hid ho7;have HB7:=hid hb7;have j0:=hri7.cell 0;simp only [ZgZ] at j0;clear ho7 hg7 hb7 hri7 c0 c1 c2 c3 c4;have hr8:=Row.new w7 3 #[.int .i64 (kk:Int)];have hb8:Below w7.heap.size w7 (w7.alloc (.cells #[.int .i64 (kk:Int)] 3)):=(Below.refl _ _).alloc (ZnR _) _;have HO8:=hid (HO7.out.kept (Zz02 hb8 none) (by cases (Value.slice A7 (kk+1) c7).ownBlock <;> simp));have HR8:=hid hr8;have HB8:=hid (HB7.out.trans (hb8.mono HB7.out.size));have HZ8:=hid (show w1.heap.size≤w7.heap.size from HB7.out.size);clear hr8 hb8;go_upto_region 4 with fail;clear j0
    generalize w7.alloc (.cells #[.int .i64 (kk:Int)] 3)=w8 at*;obtain ⟨g8,hg8⟩:∃ g,w7.heap.size=g:=⟨_,rfl⟩;rw [hg8] at HR8 HZ8 ⊢;clear hg8;have m0:=HR8.out.cell 0;have n0:=HR8.out.frozen 0;simp only [ZgZ] at m0;have ew:IntKind.i64.wrap ((kk:Int)+1)=((kk+1:Nat):Int):=by rw [IntKind.wrap_i64];omega
    go_wp2_with fail;go_roundw
    case rel=>
     have hk2:=HKK.out;subst hk2;exact ⟨k+1,g8,c7,A7,ys++ [x],by omega,.inr (by rw [HOF.out];omega),rfl,rfl,HR8.out.set 0 _,by
      rw [List.flatMap_append,List.flatMap_singleton];exact HO8.out.kept (row:=some g8) (World.grownBy_setCell8 w8 g8 0 _) (Zzhx HO8.out HR8.out (by decide)),HZ8.out,by rw [List.length_append,HYL.out];rfl,fun y hy=>by
      rcases List.mem_append.1 hy with h1 | h1
      ·exact HYM.out y h1
      ·exact .inr (by rw [List.mem_singleton.1 h1];exact HXM.out),by rw [List.map_append,HF.out,HDS.out];rfl,Zz0e HB8.out _ _ HZ8.out HB8.out.size _⟩
    case measure=>simp [lenOf] <;> omega
  ·have HRP:=hid (Zzh1 HOWN.out HYL.out (ZnT HBw.out HBR.out.size) (fun y hy=>by
    rcases HYM.out y hy with rfl | h1
    ·exact HP1.out.below (HBR.out.mono HBw.out)
    ·exact (H1.out.at_ y h1).below (HBR.out.mono HBw.out)))
   have HFIN:=hid (show ∀ b:Bool,decide (0 < of_)=b→(b=false→TT=none)∧(b=true→TT=some (ys.map PD.p)) from fun b hb=>by
    have hk2:=HKK.out;constructor
    ·intro h1
     rw [h1] at hb;have h2:=of_decide_eq_false hb;rw [← HT.out];exact Zzcf (by rw [HOF.out];omega)
    ·intro h1
     rw [h1] at hb;have h2:=of_decide_eq_true hb;rw [← HT.out,HF.out];have h3:=HKO.out;exact Zzcg HDL.out (by rw [HOF.out];omega))
   go_upto_region 11 with fail;have f2':=f2;go_region
   go_wp2_with fail;go_ret2
   exact ⟨Ao,kk,co,ys,decide (0 < of_),rfl,hcc,by omega,HRP.out.up (Zz01 (Below.refl _ _) 1),HB1.out.trans ((Zz01 HBR.out 1).mono HB1.out.size),(HFIN.out _ rfl).1,(HFIN.out _ rfl).2⟩
end Go.Proofs.YtnknjeipfjdjoaaGreatDoor
