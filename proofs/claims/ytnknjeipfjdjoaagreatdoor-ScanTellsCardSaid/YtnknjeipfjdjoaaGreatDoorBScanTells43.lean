/- PageWhole ScanKeep PageWhole2 PageJoin ScanMani ScanWhole -/
import Derived.Carry
import Derived.Test.YtnknjeipfjdjoaaGreatDoorBScanTells25
import Derived.Test.YtnknjeipfjdjoaaGreatDoorBScanTells37
import Derived.Test.YtnknjeipfjdjoaaGreatDoorBScanTells42
set_option maxHeartbeats 8000000
set_option maxRecDepth 20000
set_option linter.unusedSimpArgs false
set_option linter.unusedVariables false
namespace Go.Proofs.YtnknjeipfjdjoaaGreatDoor
open Go.RowKit Wells
theorem Zz7x {l:List Byte} {q:Mani} (h:parseL l=some q):M64 q∧∀ e∈q.objs,e.name.length≤1048576:=by
 unfold parseL at h;split at h
 ·injection h with h
  rw [← h];exact Zz80 _
 ·cases h
theorem Zzcq:M64 Mani.zero∧∀ e∈Mani.zero.objs,e.name.length≤1048576:=
 ⟨⟨by unfold i64;decide,by unfold i64;decide,by unfold i64;decide,by unfold i64;decide,by unfold i64;decide,by unfold i64;decide,(fun z h=>by cases h),(fun e h=>by cases h)⟩,(fun e h=>by cases h)⟩
theorem Zzi9 (A Ac:Option Addr) (n c nl cc B:Nat) (l:List Byte) (p:Pg) (dv:Value) (b:Bool) (w:World) (h:Sl w B 1 A n (l.map bv8)) (hsc:Sl w B 1 Ac nl (p.cell.map bv8)) (hB:B≤w.heap.size) (hb:decide (l=p.cell)=b) (hd:dv.oneCell'=true):
  Calls Tryz.prog 125 #[.slice A n c,p.val dv (.slice Ac nl cc)] w fun e w'=>e= .returned (.bool b)∧Below w.heap.size w w':=by
 have hb1:Below w.heap.size w (w.alloc (.cells #[.int .i64 p.seq,.int .i64 p.at_,.int .i64 p.of_,dv,.slice Ac nl cc] 128)):=(Below.refl _ _).alloc (ZnR _) _;have HA:=hid hb1;have HS:=hid (h.below (hb1.mono hB));have HC:=hid (hsc.below (hb1.mono hB));have HB:=hid hb;clear hb1 h hsc hb;unfold Pg.val;go_enter Tryz.func125,Tryz.ntmps125;go_wp2_with fail;refine (Zz1w b B A Ac l p.cell n nl c cc _ HS.out HC.out HB.out).mono ?_;rintro e w' ⟨rfl,rfl⟩;go_wp2_with fail;go_ret
 exact ⟨rfl,HA.out⟩
theorem Zz9p (B:Nat) (A Ap:Option Addr) (n c np cp:Nat) (vs:List Value) (ls:List (List Byte)) (ys:List PD) (b:Bool) (w:World) (h:RBs w B A n vs ls) (hp:RPs w B Ap np ys) (hB:B≤w.heap.size) (hn:n≤1048576) (hb:decide (ls=ys.map fun y=>y.p.cell)=b):
  Calls Tryz.prog 124 #[.slice A n c,.slice Ap np cp,.func (Fn.func 125) #[] #[]] w fun e w'=>e= .returned (.bool b)∧Below w.heap.size w w':=by
 have H:=hid h;have HP:=hid hp;have HL:=hid h.len;have HPL:=hid hp.len;have HBB:=hid hb;clear h hp hb;go_enter Tryz.func124,Tryz.ntmps124;by_cases hnn:n=np
 ·subst hnn
  go_wp2_with fail;go_loopw [17] (fun iv wr=>∃ k:Nat,k≤n∧iv= .int .i64 (k:Int)∧Hid (∀ j,j < k→ls.getD j []=(ys[j]!).p.cell)∧Below w.heap.size w wr) (fun iv _=>n - (intOf iv).toNat)
  case atStart=>exact ⟨0,Nat.zero_le _,rfl,hid (fun j hj=>absurd hj (by omega)),Below.refl _ _⟩
  case round=>
   obtain ⟨k,hk,rfl,HK,hbr⟩:=hrel;have HBR:=hid hbr;clear hbr;by_cases hlt:k < n
   ·have hlt':(k:Int) < (n:Int):=by omega
    have hbB:=HBR.out.mono hB;obtain ⟨b1,o1,A1,c1,rfl,hb1,e1,hc1,hc2,hsl⟩:=(H.out.below hbB).get hlt;obtain ⟨l1,hl1⟩:∃ l1,ls.getD k []=l1:=⟨_,rfl⟩;rw [hl1] at e1 hc1 hsl;obtain ⟨n1,hn1⟩:∃ n1,l1.length=n1:=⟨_,rfl⟩;rw [hn1] at e1 hc1 hsl;obtain ⟨bb,o,rfl,hbb,hxm,_,hcells⟩:=(HP.out.below hbB).get hlt;obtain ⟨x,hx⟩:∃ x,ys[k]! =x:=⟨_,rfl⟩;have HXX:=hid hx;rw [hx] at hxm hcells;have hpx:=(HP.out.below hbB).at_ x hxm;have q0:=hcells 0 _ rfl;have q1:=hcells 1 _ rfl;have q2:=hcells 2 _ rfl;have q3:=hcells 3 _ rfl;have q4:=hcells 4 _ rfl;simp only [Nat.add_zero] at q0 q1 q2 q3 q4;obtain ⟨⟨Adx,cdx,hxd,_,_,_⟩,⟨Acx,ccx,hxc,_,_,hsc⟩⟩:=hpx;obtain ⟨nbx,hnbx⟩:∃ q,x.p.bears.length=q:=⟨_,rfl⟩
    obtain ⟨ncx,hncx⟩:∃ q,x.p.cell.length=q:=⟨_,rfl⟩;rw [hnbx] at hxd;rw [hncx] at hxc hsc;rw [hxd] at q3;rw [hxc] at q4;have hb4:Below wr.heap.size wr (wr.alloc (.cells #[.int .i64 x.p.seq,.int .i64 x.p.at_,.int .i64 x.p.of_,.slice Adx nbx cdx,.slice Acx ncx ccx] 128)):=(Below.refl _ _).alloc (ZnR _) _;have HB4:=hid hb4;have HSL:=hid (hsl.below (hb4.mono (ZnT hB HBR.out.size)));have HPX:=hid (hsc.below (hb4.mono (ZnT hB HBR.out.size)));clear hxd hxc hnbx hncx hsc;have HL1:=hid hl1;obtain ⟨q,hq⟩:∃ q,decide (l1=x.p.cell)=q:=⟨_,rfl⟩;have HQ:=hid hq;clear hl1 hn1 hx hcells hb4 hsl hq hxm hbB;go_wp2_with fail
    refine (Zzi9 A1 Acx n1 c1 ncx ccx B l1 x.p _ q _ HSL.out HPX.out (ZnT (ZnT hB HBR.out.size) HB4.out.size) HQ.out rfl).mono ?_;rintro e w5 ⟨rfl,hb5⟩;have HB5:=hid (HBR.out.trans ((HB4.out.trans (hb5.mono HB4.out.size)).mono HBR.out.size));clear hb5 q0 q1 q2 q3 q4;cases q with
    | true=>
     go_wp2_with fail;go_roundw
     case rel=>exact ⟨k+1,by omega,by go_num,hid (fun j hj=>by
      rcases Nat.lt_or_ge j k with h | h
      ·exact HK.out j h
      ·have e:j=k:=by omega
       rw [e,HL1.out,HXX.out];exact of_decide_eq_true HQ.out),HB5.out⟩
     case measure=>simp [intOf];omega
    | false=>
     have hbf:b=false:=by
      rw [← HBB.out,decide_eq_false_iff_not];intro hh;have h1:=of_decide_eq_false HQ.out;apply h1
      have hky:k < ys.length:=by rw [HPL.out];exact hlt
      rw [← HL1.out,hh,ZgD,List.getElem?_map,ZgE hky,← HXX.out,getElem!_pos ys k hky];rfl
     subst hbf;go_wp2_with fail;go_ret
     exact ⟨rfl,HB5.out⟩
   ·have hlt':¬ (k:Int) < (n:Int):=by omega
    obtain rfl:k=n:=by omega
    have hbt:b=true:=by
     rw [← HBB.out,decide_eq_true_eq];apply List.ext_getElem
     ·rw [List.length_map,HL.out,HPL.out]
     ·intro j h1 h2
      have h3:=HK.out j (by rw [← HL.out];exact h1);rw [ZgD,ZgE h1] at h3;rw [List.getElem_map];rw [List.length_map] at h2;rw [getElem!_pos ys j h2] at h3;exact h3
    subst hbt;go_wp2_with fail;go_ret
    exact ⟨rfl,HBR.out⟩
 ·have hnn':¬ (n:Int)=(np:Int):=by omega
  have hbf:b=false:=by
   rw [← HBB.out,decide_eq_false_iff_not];intro hh;apply hnn
   have:=congrArg List.length hh
   rw [List.length_map,HL.out,HPL.out] at this;exact this
  subst hbf;go_wp2_with fail;go_ret
  exact ⟨rfl,Below.refl _ _⟩
theorem OBs.app {base:Nat} {w w':World} {v v2 v':Value} {vs vs2:List Value} {ls ls2:List (List Byte)} {n:Nat} (h:OBs base w v vs ls) (h2:OBs base w v2 vs2 ls2)
  (ho:w'.ownsRow base 33 1 v' n (vs++vs2)) (hg:w.grownBy w' v.ownBlock):OBs base w' v' (vs++vs2) (ls++ls2):=by
 have hlen:vs.length=ls.length:=by have:=h.own.1;omega
 have hlen2:vs2.length=ls2.length:=by have:=h2.own.1;omega
 have hn:n=(ls++ls2).length:=by have:=ho.1;simp only [List.length_append] at this ⊢;omega
 subst hn;refine ⟨ho,fun i hi=> ?_⟩;rw [List.length_append] at hi;by_cases hlt:i < ls.length
 ·rw [ZgD,ZgD,List.getElem?_append_left (by omega),List.getElem?_append_left hlt,← ZgD,← ZgD]
  exact (h.at_ i hlt).keep hg (Zz0i (h.at_ i hlt) h.own (by decide))
 ·rw [ZgD,ZgD,List.getElem?_append_right (by omega),List.getElem?_append_right (by omega),hlen,← ZgD,← ZgD]
  exact (h2.at_ _ (by omega)).keep hg (Zz0i (h2.at_ _ (by omega)) h.own (by decide))
theorem Zzb1 {base:Nat} {w:World} {v:Value} {vs:List Value} {ls:List (List Byte)} (h:OBs base w v vs ls):∀ u∈vs,u.oneCell'=true:=by
 intro u hu;obtain ⟨l,hl⟩:=h.elem hu;obtain ⟨A,c,rfl,_⟩:=Zz0h hl;rfl
def keepL (m:Mani) (l:List (List Byte)):List (List Byte):=pagesL m.seq (pack m)++(recsL m l).map putR
def KeepR (m:Mani) (l:List (List Byte)) (w:World) (e:Ending) (w':World):Prop:=
 ∃ (A:Option Addr) (c:Nat) (vs:List Value),e= .returned (.slice A (keepL m l).length c)∧OBs w.heap.size w' (.slice A (keepL m l).length c) vs (keepL m l)∧Below w.heap.size w w'
theorem Zzi7 {es:List Ent} (h:∀ e∈es,(packE e).length≤26):(es.flatMap packE).length≤26*es.length:=by
 induction es with
 | nil=>exact ZnR _
 | cons e es ih=>
  have h1:=h e (by simp);have h2:=ih (fun x hx=>h x (List.mem_cons_of_mem _ hx));rw [List.flatMap_cons,List.length_append,List.length_cons];omega
theorem Zz7b (m:Mani):(pack m).length≤400:=by
 unfold pack;split
 ·rename_i hm
  have hp:=may_p hm;have h1:=Zzi7 (es:=m.objs) (fun e he=>by
   obtain ⟨i,hi,rfl⟩:=List.getElem_of_mem he;have:=Zzah hp hi
   rw [ZgD,ZgE hi] at this;exact Zzdu this)
  have h2:=hp.olen;have h3:=Zz49 hp.drives;unfold packL packH;simp only [List.length_append,List.length_map,Zz0r,List.length_singleton,List.length_cons,List.length_nil];omega
 ·exact Nat.zero_le _
theorem Zz18 (m:Mani):(pagesL m.seq (pack m)).length≤9:=by
 have:=Zz7b m
 rw [Zz0n];unfold pageN;omega
theorem Zzc2 (F:Nat→Prop) (g pg:Nat) (d:Dr) (mk:Nat) (m:Mani) (B:Nat) (Ad Ao:Option Addr) (nd cd no co:Nat) (ts:List Value) (w:World) (h:DrvE F w g pg d) (hok:DOk mk d) (hm:RM w B m Ad nd cd Ao no co ts) (hB:B≤w.heap.size) (hno:no≤9223372036854775807) (h64:M64 m) (hnm:∀ e∈m.objs,e.name.length≤1048576):
  Calls Tryz.prog 19 #[.pointer (some ⟨g,0,none⟩),m.val (.slice Ad nd cd) (.slice Ao no co)] w (KeepR m d.L w):=by
 have hb:Below w.heap.size w (w.alloc (.cells #[.int .i64 m.seq,.int .i64 m.next,.int .i64 m.P.K,.int .i64 m.P.H,.int .i64 m.P.S,.int .i64 m.extra,.slice Ad nd cd,.slice Ao no co] 28)):=(Below.refl _ _).alloc (ZnR _) _;have H1:=hid (h.new_ hb);have hx:=Row.new w 28 #[.int .i64 m.seq,.int .i64 m.next,.int .i64 m.P.K,.int .i64 m.P.H,.int .i64 m.P.S,.int .i64 m.extra,.slice Ad nd cd,.slice Ao no co];have HX:=hid hx;have HM:=hid (hm.below (hb.mono hB));have HBW:=hid hb;have hll:=hok.len;have hrm:=hok.room;have hrl:(recsL m d.L).length≤512:=by
  unfold recsL;have h1:=Zz3t (lt:=ltR) (ssort ltR (cntL m d.L));rw [Zz09] at h1;have h2:=Zz1r m d.L;omega
 have hpl:=Zz18 m;have HLEN:=hid (show (pagesL m.seq (pack m)++(recsL m d.L).map putR).length≤9223372036854775807∧(pagesL m.seq (pack m)++(recsL m d.L).map putR).length*24≤140737488355328 by rw [List.length_append,List.length_map];omega);obtain ⟨ibs,hibs,hzb0,hzb1,hzb2⟩:=info_parts infoBs;unfold KeepR keepL;obtain ⟨NK,hNK⟩:∃ NK,(pagesL m.seq (pack m)++(recsL m d.L).map putR).length=NK:=⟨_,rfl⟩;have HNK:=hid hNK;have hlen:=HLEN.out;rw [hNK] at hlen ⊢;clear HLEN hNK;clear hb h hm hx hll hrm hrl hpl;unfold Mani.val;go_enter Tryz.func19,Tryz.ntmps19;go_upto_region 1 with fail
 generalize w.alloc (.cells #[.int .i64 m.seq,.int .i64 m.next,.int .i64 m.P.K,.int .i64 m.P.H,.int .i64 m.P.S,.int .i64 m.extra,.slice Ad nd cd,.slice Ao no co] 28)=w1 at*;refine Org.begin [] (fun w'=>Below w1.heap.size w1 w') [0,2,3,1,4,5,6] (by kernel_rfl) (Zz01 (Below.refl _ _) 1) (fun hS=> ?_);(refine Org.yA (v:= ?_) (SM.of hS) ?_ ?_;rotate_left;(focus (intro w hSw;(try dsimp only at hSw);have hr:=HX.out.below hSw HX.out.lt;obtain ⟨x0,x1,x2,x3,x4,x5,x6,x7⟩:=Row.c8 hr;refine Pure.val ?_;go_simp;(try with_reducible rfl);done));try simp only [aS,aN,aA,a0,a1]);(refine Org.yV (SM.of hS) ?_;try simp only [aS,aN,aA,a0,a1])
 (refine Org.yA (v:= ?_) (SM.of hS) ?_ ?_;rotate_left;(focus (intro w hSw;(try dsimp only at hSw);have hr:=HX.out.below hSw HX.out.lt;obtain ⟨x0,x1,x2,x3,x4,x5,x6,x7⟩:=Row.c8 hr;refine Pure.val ?_;go_simp;(try with_reducible rfl);done));try simp only [aS,aN,aA,a0,a1]);refine Org.gA fun K hK=> ?_
 go_simp;go_at_call 24;refine (Zz3v m B Ad Ao nd cd no co ts _ (HM.out.below (hS.mono (ZnT hB HBW.out.size))) (ZnT (ZnT hB HBW.out.size) hS.size) h64 hnm).mono ?_;rintro e wp ⟨Ap,cp,vsp,rfl,hop,hbp⟩;have HOP:=hid (hop.base hS.size);have HBP:=hid hbp;clear hop hbp;go_wp2_with fail;refine hK.out _ _ (hS.trans (HBP.out.mono hS.size)) (fun hS2=> ?_);clear hK K hS;have hS:=hS2;clear hS2;try simp only [aS,aN,aA,a0,a1]
 refine Org.gA fun K hK=> ?_
 go_simp;go_at_call 59;refine (Zze1 F g pg d mk m B Ad Ao nd cd no co ts _ (H1.out.new_ (hS.mono (ZnR _))) hok (HM.out.below (hS.mono (ZnT hB HBW.out.size))) (ZnT (ZnT hB HBW.out.size) hS.size) hno).mono ?_;rintro e wc ⟨Ac,n,cc,vsc,rfl,hn,hoc,hbc⟩;have HN:=hid hn.symm;clear hn;have HOC:=hid (hoc.base hS.size);have HBC:=hid hbc;clear hoc hbc;go_wp2_with fail;refine hK.out _ _ (hS.trans (HBC.out.mono hS.size)) (fun hS2=> ?_);clear hK K hS;have hS:=hS2;clear hS2;try simp only [aS,aN,aA,a0,a1]
 refine Org.gA fun K hK=> ?_
 have HP:=hid (by first | exact HOP.out.below HBC.out | exact HOP.out:OBs w1.heap.size _ (.slice Ap (pagesL m.seq (pack m)).length cp) vsp (pagesL m.seq (pack m)));have HC:=hid (by first | exact HOC.out.below HBP.out | exact HOC.out:OBs w1.heap.size _ (.slice Ac n cc) vsc ((recsL m d.L).map putR));have howc:=HC.out.own;rw [HN.out] at howc;refine Zz0k (.tmp 6) (.tmp 9) 23 rfl w1.heap.size 33 ibs (.slice none 0 0) 1 24 Tryz.underlying23 hibs hzb0 hzb1 hzb2 rfl (by omega) (.slice Ap (pagesL m.seq (pack m)).length cp) (pagesL m.seq (pack m)).length vsp rfl HP.out.own _ Ac n cc vsc rfl (Sl.own howc) (Zzb1 HC.out) NK (by rw [← HNK.out,List.length_append,HN.out]) _ rfl hlen.1 hlen.2 hS.size ?_
 rintro A7 c7 w7 ho7 hg7 _;have hps:=OBs.app HP.out HC.out ho7 hg7;have hb7:=Zz04 hS HP.out.own hg7 (ZnR _) hS.size;have HPS:=hid hps;have HB7:=hid hb7;clear hps hb7 ho7 hg7 howc;refine hK.out _ _ HB7.out (fun hS2=> ?_);clear hK K hS;have hS:=hS2;clear hS2;try simp only [aS,aN,aA,a0,a1]
 (refine Org.yV (SM.of hS) ?_;try simp only [aS,aN,aA,a0,a1]);refine Org.done (by kernel_rfl) ?_;go_wp2_with fail;go_ret
 exact ⟨A7,c7,_,rfl,HPS.out.base HBW.out.size,HBW.out.trans (HB7.out.mono HBW.out.size)⟩
def WholeR (T:Option Mani) (w:World) (e:Ending) (w':World):Prop:=
 ∃ (mm:Mani) (Ad:Option Addr) (nd cd:Nat) (Ao:Option Addr) (no co:Nat) (ts:List Value) (b:Bool),e= .returned (.tuple #[mm.val (.slice Ad nd cd) (.slice Ao no co),.bool b])∧OM w.heap.size w' mm Ad nd cd Ao no co ts∧M64 mm∧(∀ e∈mm.objs,e.name.length≤1048576)∧Below w.heap.size w w'∧(b=false→T=none)∧(b=true→T=some mm)
theorem Zz6v {L:List Pg} {l:List Byte} (hl:l=L.flatMap Pg.bears) (hr:parseL l=none):wholeL L=none:=by
 subst hl;unfold wholeL;split
 ·rename_i m hp
  rw [hp] at hr;cases hr
 ·rfl
theorem Zz71 {L:List Pg} {l:List Byte} {m:Mani} {b:Bool} (hl:l=L.flatMap Pg.bears) (hr:parseL l=some m) (hb:decide (pagesL m.seq (pack m)=L.map Pg.cell)=b):(b=false→wholeL L=none)∧(b=true→wholeL L=some m):=by
 subst hl;unfold wholeL;split
 ·rename_i m' hp
  rw [hp] at hr;injection hr with hr;subst hr;constructor
  ·intro h
   rw [h] at hb;exact if_neg (of_decide_eq_false hb)
  ·intro h
   rw [h] at hb;exact if_pos (of_decide_eq_true hb)
 ·rename_i hp
  rw [hp] at hr;cases hr
theorem OM.zero_ (base:Nat) (w:World):OM base w Mani.zero none 0 0 none 0 0 []:=⟨World.ownsRow_nil _ _ _ _,rfl,OEs.nil_ _ _,rfl⟩
theorem OM.base_ {base base':Nat} {w:World} {m:Mani} {Ad Ao:Option Addr} {nd cd no co:Nat} {ts:List Value} (h:OM base w m Ad nd cd Ao no co ts) (hb:base'≤base):OM base' w m Ad nd cd Ao no co ts:=
 ⟨Zz0b h.d hb,h.dl,⟨Zz0b h.o.own hb,h.o.tl,fun i hi=>by
  obtain ⟨A,c,e,ho⟩:=h.o.at_ i hi;exact ⟨A,c,e,Zz0b ho hb⟩⟩,h.ol⟩
theorem Zzbl (B:Nat) (A:Option Addr) (n c:Nat) (ys:List PD) (w:World) (h:RPs w B A n ys) (hB:B≤w.heap.size) (hn:n≤256) (hc:n≤c∧c≤9223372036854775807) (h48:∀ y∈ys,y.p.bears.length≤48):
  Calls Tryz.prog 102 #[.slice A n c] w (WholeR (wholeL (ys.map PD.p)) w):=by
 obtain ⟨TT,hT⟩:∃ T,wholeL (ys.map PD.p)=T:=⟨_,rfl⟩;rw [hT];have HT:=hid hT;have hr0:Row (w.alloc (.cells #[.int .i64 0,.int .i64 0,.int .i64 0,.int .i64 0,.int .i64 0,.int .i64 0,.slice none 0 0,.slice none 0 0] 28)) w.heap.size 28 [.int .i64 0,.int .i64 0,.int .i64 0,.int .i64 0,.int .i64 0,.int .i64 0,.slice none 0 0,.slice none 0 0]:=Row.new w 28 #[.int .i64 0,.int .i64 0,.int .i64 0,.int .i64 0,.int .i64 0,.int .i64 0,.slice none 0 0,.slice none 0 0];have hb0:Below w.heap.size w (w.alloc (.cells #[.int .i64 0,.int .i64 0,.int .i64 0,.int .i64 0,.int .i64 0,.int .i64 0,.slice none 0 0,.slice none 0 0] 28)):=(Below.refl _ _).alloc (ZnR _) _;have H:=hid (h.below (hb0.mono hB))
 have HL:=hid h.len;have HR0:=hid hr0;have HB0:=hid hb0;have H48:=hid h48;obtain ⟨i0,hi,hz0,hz1,hz2⟩:=info_parts infoB;clear hT hr0 hb0 h h48;go_enter Tryz.func102,Tryz.ntmps102;go_upto_region 1 with fail;generalize w.alloc (.cells #[.int .i64 0,.int .i64 0,.int .i64 0,.int .i64 0,.int .i64 0,.int .i64 0,.slice none 0 0,.slice none 0 0] 28)=w1 at*;obtain ⟨g0,hg0⟩:∃ g,w.heap.size=g:=⟨_,rfl⟩;have HG0:=hid (show g0 < w1.heap.size by rw [← hg0];exact HR0.out.lt);have HG00:=hid hg0;rw [hg0] at HR0 ⊢;clear hg0;have hB1:B≤w1.heap.size:=ZnT hB HB0.out.size;go_wp2_with fail
 go_loopw [4,12] (fun bv iv wr=>∃ (k nb cb:Nat) (Ab:Option Addr) (l:List Byte),k≤n∧iv= .int .i64 (k:Int)∧bv= .slice Ab nb cb∧nb≤48*k∧(nb≤cb∧cb≤9223372036854775807)∧l.length=nb∧wr.ownsRow w1.heap.size 5 1 (.slice Ab nb cb) nb (l.map bv8)∧Hid (l=((ys.take k).map PD.p).flatMap Pg.bears)∧Below w1.heap.size w1 wr) (fun _ iv _=>n - (intOf iv).toNat)
 case atStart=>exact ⟨0,0,0,none, [],Nat.zero_le _,rfl,rfl,by omega,by omega,rfl,World.ownsRow_nil _ _ _ _,by rfl,Below.refl _ _⟩
 case round=>
  obtain ⟨k,nb,cb,Ab,l,hk,rfl,rfl,hnb,hcb,hll,hown,HF,hbr⟩:=hrel;have HOWN:=hid hown;have HBR:=hid hbr;have HLL:=hid hll;clear hown hbr hll;by_cases hlt:k < n
  ·have hlt':(k:Int) < (n:Int):=by omega
   obtain ⟨bb,o,rfl,hbb,hxm,hxg,hcells⟩:=(H.out.below (HBR.out.mono hB1)).get hlt;obtain ⟨x,hx⟩:∃ x,ys[k]! =x:=⟨_,rfl⟩;rw [hx] at hxm hcells hxg;have hpx:=(H.out.below (HBR.out.mono hB1)).at_ x hxm;have h48x:=H48.out x hxm;have q0:=hcells 0 _ rfl;have q1:=hcells 1 _ rfl;have q2:=hcells 2 _ rfl;have q3:=hcells 3 _ rfl;have q4:=hcells 4 _ rfl;simp only [Nat.add_zero] at q0 q1 q2 q3 q4;obtain ⟨⟨Adx,cdx,hxd,hd1,hd2,hds⟩,⟨Acx,ccx,hxc,_,_,_⟩⟩:=hpx;obtain ⟨nbx,hnbx⟩:∃ q,x.p.bears.length=q:=⟨_,rfl⟩;obtain ⟨ncx,hncx⟩:∃ q,x.p.cell.length=q:=⟨_,rfl⟩;rw [hnbx] at hxd hds h48x;rw [hncx] at hxc;rw [hxd] at q3;rw [hxc] at q4;have htk:((ys.take (k+1)).map PD.p).flatMap Pg.bears=l++x.p.bears:=by
    have hky:k < ys.length:=by rw [HL.out];exact hlt
    have e:ys[k]=x:=by rw [ZgE hky] at hxg;injection hxg
    rw [ZtS hky,List.map_append,List.flatMap_append,← HF.out,e];simp
   have HTK:=hid htk;have HNX:=hid hnbx;have hb4:Below wr.heap.size wr (wr.alloc (.cells #[.int .i64 x.p.seq,.int .i64 x.p.at_,.int .i64 x.p.of_,.slice Adx nbx cdx,.slice Acx ncx ccx] 128)):=(Below.refl _ _).alloc (ZnR _) _;have HB4:=hid hb4;have HDS:=hid (hds.below (hb4.mono (ZnT hB1 HBR.out.size)));have hr4:=Row.new wr 128 #[.int .i64 x.p.seq,.int .i64 x.p.at_,.int .i64 x.p.of_,.slice Adx nbx cdx,.slice Acx ncx ccx];have d3:=hr4.cell 3;simp only [ZgS,ZgZ] at d3;have HOWN4:=hid (HOWN.out.kept (Zz02 hb4 none) (by cases (Value.slice Ab nb cb).ownBlock <;> simp))
   have hz4:w1.heap.size≤(wr.alloc (.cells #[.int .i64 x.p.seq,.int .i64 x.p.at_,.int .i64 x.p.of_,.slice Adx nbx cdx,.slice Acx ncx ccx] 128)).heap.size:=ZnT HBR.out.size hb4.size;clear hx hcells hxg hxd hxc hds hnbx hncx htk hb4 hxm hr4;go_wp2_with (at_builtin;go_must (refine Zz03 rfl (.tmp 16) (.tmp 18) 33 rfl w1.heap.size 5 i0 (.int .u8 0) 1 1 Tryz.underlying33 hi hz0 hz1 hz2 rfl (by omega) (.slice Ab nb cb) nb (l.map bv8) rfl HOWN4.out B Adx nbx cdx (x.p.bears.map bv8) rfl HDS.out (Zz0v _) (nb+nbx) rfl ((l++x.p.bears).map bv8) (by rw [List.map_append]) (by omega) (by omega) hz4 ?_);intro A7 c7 w7 ho7 hg7 _)
   have hb7:=Zz04 (HBR.out.trans (HB4.out.mono HBR.out.size)) HOWN4.out hg7 (ZnR _) hz4;have hc7:=Zz14 ho7;have HO7:=hid ho7;have HB7:=hid hb7;clear ho7 hg7 hb7 q0 q1 q2 q3 q4 d3 hz4;go_roundw
   case rel=>exact ⟨k+1,nb+nbx,c7,A7,l++x.p.bears,by omega,by go_num,rfl,by omega,hc7,by rw [List.length_append,HLL.out,HNX.out],HO7.out,HTK.out.symm,HB7.out⟩
   case measure=>simp [intOf] <;> omega
  ·have hlt':¬ (k:Int) < (n:Int):=by omega
   obtain rfl:k=n:=by omega
   have hl:=HF.out;rw [ZtL (by rw [HL.out];exact ZnR _)] at hl;have HLE:=hid hl;obtain ⟨r,hr⟩:∃ r,parseL l=r:=⟨_,rfl⟩;have HRR:=hid hr;clear hr;clear hl;go_wp2_with fail;refine (Zzdz wr.heap.size Ab nb cb l wr (Sl.own HOWN.out) (ZnR _) (by omega) hcb.1 hcb.2 r HRR.out).mono ?_;rintro e w2 ⟨Ad,nd,cd,Ao,no,co,ts,rfl,hom,hb2⟩;have HB2:=hid (HBR.out.trans (hb2.mono HBR.out.size));have HOM:=hid (hom.base_ HBR.out.size);have hr2:=(HR0.out.below HB2.out HG0.out);have HR2:=hid hr2;have HBW2:=hid (HB0.out.trans (HB2.out.mono HB0.out.size));clear hom hb2 hr2;cases r with
   | none=>
    have hTN:TT=none:=by rw [← HT.out];exact Zz6v HLE.out HRR.out
    subst hTN;simp only [Option.getD_none,Option.isSome_none];unfold Mani.val Mani.zero;dsimp only;have hb3:Below w2.heap.size w2 (w2.alloc (.cells #[.int .i64 0,.int .i64 0,.int .i64 0,.int .i64 0,.int .i64 0,.int .i64 0,.slice Ad nd cd,.slice Ao no co] 28)):=(Below.refl _ _).alloc (ZnR _) _;have HR3:=hid (HR2.out.below hb3 HR2.out.lt);have HB3:=hid (HBW2.out.trans (hb3.mono HBW2.out.size));clear hb3;go_upto_region 8 with fail;generalize w2.alloc (.cells #[.int .i64 0,.int .i64 0,.int .i64 0,.int .i64 0,.int .i64 0,.int .i64 0,.slice Ad nd cd,.slice Ao no co] 28)=w3 at*;have hr:=HR3.out;obtain ⟨z0,z1,z2,z3,z4,z5,z6,z7⟩:=Row.c8 hr;clear hr;have y0:=HR3.out.frozen 0;have y1:=HR3.out.frozen 1
    have y2:=HR3.out.frozen 2;have y3:=HR3.out.frozen 3;have y4:=HR3.out.frozen 4;have y5:=HR3.out.frozen 5;have y6:=HR3.out.frozen 6;have y7:=HR3.out.frozen 7;go_wp2_with fail;have R8:=row8 HR3.out (.int .i64 0) (.int .i64 0) (.int .i64 0) (.int .i64 0) (.int .i64 0) (.int .i64 0) (.slice none 0 0) (.slice none 0 0);have B8:=below8 (g:=g0) HB3.out (Nat.le_of_eq HG00.out) HB3.out.size (.int .i64 0) (.int .i64 0) (.int .i64 0) (.int .i64 0) (.int .i64 0) (.int .i64 0) (.slice none 0 0) (.slice none 0 0);obtain ⟨q0,q1,q2,q3,q4,q5,q6,q7⟩:=Row.c8 R8
    refine bodyPost_ret (v:= .tuple #[.agg #[.int .i64 0,.int .i64 0,.int .i64 0,.int .i64 0,.int .i64 0,.int .i64 0,.slice none 0 0,.slice none 0 0],.bool false]) ?_ rfl ⟨Mani.zero,none,0,0,none,0,0, [],false,rfl,OM.zero_ _ _,Zzcq.1,Zzcq.2,B8,fun _=>rfl,fun hh=>by cases hh⟩
    ·simp [results,Tryz.results102,go_sem,q0,q1,q2,q3,q4,q5,q6,q7]
   | some m=>
    simp only [Option.getD_some,Option.isSome_some] at HOM ⊢;have hm64:=Zz7x HRR.out;unfold Mani.val;have hb3:Below w2.heap.size w2 (w2.alloc (.cells #[.int .i64 m.seq,.int .i64 m.next,.int .i64 m.P.K,.int .i64 m.P.H,.int .i64 m.P.S,.int .i64 m.extra,.slice Ad nd cd,.slice Ao no co] 28)):=(Below.refl _ _).alloc (ZnR _) _;have hr3:=Row.new w2 28 #[.int .i64 m.seq,.int .i64 m.next,.int .i64 m.P.K,.int .i64 m.P.H,.int .i64 m.P.S,.int .i64 m.extra,.slice Ad nd cd,.slice Ao no co];have HR3:=hid (HR2.out.below hb3 HR2.out.lt);have HB3:=hid (HBW2.out.trans (hb3.mono HBW2.out.size));have HOM3:=hid (HOM.out.below hb3);have HX3:=hid hr3
    have H3:=hid ((H.out.below (HB2.out.mono hB1)).below (hb3.mono (ZnT hB1 HB2.out.size)));have hw3:B≤(w2.alloc (.cells #[.int .i64 m.seq,.int .i64 m.next,.int .i64 m.P.K,.int .i64 m.P.H,.int .i64 m.P.S,.int .i64 m.extra,.slice Ad nd cd,.slice Ao no co] 28)).heap.size:=ZnT (ZnT hB1 HB2.out.size) hb3.size;clear hb3 hr3;go_upto_region 8 with fail;generalize w2.alloc (.cells #[.int .i64 m.seq,.int .i64 m.next,.int .i64 m.P.K,.int .i64 m.P.H,.int .i64 m.P.S,.int .i64 m.extra,.slice Ad nd cd,.slice Ao no co] 28)=w3 at*;obtain ⟨g3,hg3⟩:∃ g,w2.heap.size=g:=⟨_,rfl⟩;rw [hg3] at HX3 ⊢;have HNE:=hid (show g0≠g3 by have:=HR2.out.lt;omega);clear hg3;have hr:=HX3.out
    obtain ⟨x0,x1,x2,x3,x4,x5,x6,x7⟩:=Row.c8 hr;clear hr;go_wp2_with fail;refine (Zz3v m w3.heap.size Ad Ao nd cd no co ts w3 HOM3.out.read (ZnR _) hm64.1 hm64.2).mono ?_;rintro e w4 ⟨A4,c4,vs4,rfl,ho4,hb4⟩;obtain ⟨n4,hn4⟩:∃ q,(pagesL m.seq (pack m)).length=q:=⟨_,rfl⟩;rw [hn4] at ho4;have hrb:=ho4.read hn4;have hn49:n4≤1048576:=by rw [← hn4,Zz0n];have:=Zz7b m;unfold pageN;omega
    rw [hn4];have HRB:=hid hrb;have HR4:=hid (HR3.out.below hb4 HR3.out.lt);have HX4:=hid (HX3.out.below hb4 HX3.out.lt);have HB4:=hid (HB3.out.trans (hb4.mono HB3.out.size));have HOM4:=hid (HOM3.out.below hb4);have H4:=hid ((H3.out.below (hb4.mono hw3)).mono (ZnT hw3 hb4.size));obtain ⟨bq,hbq⟩:∃ b,decide (pagesL m.seq (pack m)=ys.map fun y=>y.p.cell)=b:=⟨_,rfl⟩;have HBQ:=hid hbq;have HWS:=hid (Zz71 (b:=bq) HLE.out HRR.out (by
     rw [← hbq,List.map_map];rfl))
    clear ho4 hrb hn4 hb4 hbq x0 x1 x2 x3 x4 x5 x6 x7;go_wp2_with fail;refine (Zz9p w4.heap.size A4 A n4 c4 k c vs4 (pagesL m.seq (pack m)) ys bq w4 HRB.out H4.out (ZnR _) hn49 HBQ.out).mono ?_;rintro e w5 ⟨rfl,hb5⟩;have HR5:=hid (HR4.out.below hb5 HR4.out.lt);have HX5:=hid (HX4.out.below hb5 HX4.out.lt);have HB5:=hid (HB4.out.trans (hb5.mono HB4.out.size));have HOM5:=hid (HOM4.out.below hb5);clear hb5;have hr:=HX5.out;obtain ⟨x0,x1,x2,x3,x4,x5,x6,x7⟩:=Row.c8 hr;clear hr;have hr:=HR5.out;obtain ⟨z0,z1,z2,z3,z4,z5,z6,z7⟩:=Row.c8 hr;clear hr;have y0:=HR5.out.frozen 0;have y1:=HR5.out.frozen 1;have y2:=HR5.out.frozen 2;have y3:=HR5.out.frozen 3;have y4:=HR5.out.frozen 4
    have y5:=HR5.out.frozen 5;have y6:=HR5.out.frozen 6;have y7:=HR5.out.frozen 7;go_wp2_with fail;have R8:=row8 HR5.out (.int .i64 m.seq) (.int .i64 m.next) (.int .i64 m.P.K) (.int .i64 m.P.H) (.int .i64 m.P.S) (.int .i64 m.extra) (.slice Ad nd cd) (.slice Ao no co);have B8:=below8 (g:=g0) HB5.out (Nat.le_of_eq HG00.out) HB5.out.size (.int .i64 m.seq) (.int .i64 m.next) (.int .i64 m.P.K) (.int .i64 m.P.H) (.int .i64 m.P.S) (.int .i64 m.extra) (.slice Ad nd cd) (.slice Ao no co);obtain ⟨q0,q1,q2,q3,q4,q5,q6,q7⟩:=Row.c8 R8
    refine bodyPost_ret (v:= .tuple #[.agg #[.int .i64 m.seq,.int .i64 m.next,.int .i64 m.P.K,.int .i64 m.P.H,.int .i64 m.P.S,.int .i64 m.extra,.slice Ad nd cd,.slice Ao no co],.bool bq]) ?_ rfl ⟨m,Ad,nd,cd,Ao,no,co,ts,bq,rfl,(HOM5.out.other (grown8s _ _ _ _ _ _ _ _ _ _) HR5.out (by decide) (by decide)).base_ HB0.out.size,hm64.1,hm64.2,B8,fun hh=>by rw [← HT.out];exact HWS.out.1 hh,fun hh=>by rw [← HT.out];exact HWS.out.2 hh⟩
    ·simp [results,Tryz.results102,go_sem,q0,q1,q2,q3,q4,q5,q6,q7]
end Go.Proofs.YtnknjeipfjdjoaaGreatDoor
namespace Wells
open Go Go.RowKit
theorem Zz2g (l:List (List Byte)) (c:List Byte):pagesOf (l++ [c])=pagesOf l++(tkPage c).toList:=by
 unfold pagesOf;rw [List.filterMap_append];congr 1
theorem Zz31 {l:List (List Byte)} {p:Pg} (h:p∈pagesOf l):∃ c∈l,tkPage c=some p:=by
 unfold pagesOf at h;obtain ⟨c,hc,e⟩:=List.mem_filterMap.1 h;exact ⟨c,hc,e⟩
theorem Zzb8 {L:List Pg} {f q:Pg}:∀ {k:Nat},q∈docG L f k→q=f∨q∈L
 | 0,h=> .inl (by simpa [docG] using h)
 | k+1,h=>by
  unfold docG at h;rcases List.mem_append.1 h with h | h
  ·exact Zzb8 h
  ·rw [Option.mem_toList] at h
   exact .inr (List.mem_of_find?_eq_some h)
theorem Zzcs {L s:List Pg} {f q:Pg} (h:gatherL L f=some s) (hq:q∈s):q=f∨q∈L:=by
 unfold gatherL at h;split at h
 ·injection h with h
  subst h;exact Zzb8 hq
 ·cases h
theorem Zzek (P l:List Pg) (x:Pg):(l++ [x]).filterMap (told P)=l.filterMap (told P)++(told P x).toList:=by
 rw [List.filterMap_append];congr 1
theorem Zzh3 {P:List Pg} {x:Pg} (h:x.at_=0):told P x=(gatherL P x).bind wholeL:=if_pos h
theorem Zzi2 {P:List Pg} {x:Pg} (h:¬ x.at_=0):told P x=none:=if_neg h
def keyL (m:Mani):Lit:= .string (strB (pack m)).data.toList
theorem Zzho {a b:Mani} (ha:a.may=true) (hb:b.may=true) (h:keyL a=keyL b):a=b:=by
 unfold keyL at h;injection h with h;have h1:strB (pack a)=strB (pack b):=by
  have:=Array.toList_inj.1 h
  cases h2:strB (pack a);cases h3:strB (pack b)
  rw [h2,h3] at this;congr 1
 have h2:=Zzbf h1;have h3:=Zz25 ha;rw [h2,Zz25 hb] at h3;injection h3 with h3;exact h3.symm
def KnowsM {H:Type} (D:DataW H) (l:List Mani):Prop:=Maps.IsMap D∧∀ m,m.may=true→∃ b:Bool,D.atKey (keyL m) (.lit (.bool false))= .lit (.bool b)∧(b=true↔m∈l)
theorem Zzhq {H:Type} {a b:Bool} (h:(DataW.lit (.bool a):DataW H)= .lit (.bool b)):a=b:=by
 injection h with h;injection h
theorem KnowsM.nil_ {H:Type}:KnowsM (.map []:DataW H) []:=⟨⟨[],rfl⟩,fun m _=>⟨false,rfl,by simp⟩⟩
theorem KnowsM.put_ {H:Type} {D:DataW H} {l:List Mani} {m:Mani} (h:KnowsM D l) (hm:m.may=true):KnowsM (D.put (keyL m) (.lit (.bool true))) (l++ [m]):=by
 have hk:WideAt.IsKeyLit (keyL m):=trivial;refine ⟨Maps.IsMap.put h.1 _ _,fun q hq=> ?_⟩;by_cases e:q=m
 ·subst e
  exact ⟨true,Maps.atKey_put_same h.1 hk _ _,by simp⟩
 ·obtain ⟨b,h1,h2⟩:=h.2 q hq
  refine ⟨b,by rw [Maps.atKey_put_other (fun hh=>e (Zzho hq hm hh)),h1],?_⟩;rw [h2];simp [e]
end Wells
namespace Go.Proofs.YtnknjeipfjdjoaaGreatDoor
open Go.RowKit Wells
def JoinR (ms:List Mani) (w:World) (e:Ending) (w':World):Prop:=
 ∃ (A:Option Addr) (n c:Nat) (xs:List MD),e= .returned (.slice A n c)∧n=ms.length∧(n≤c∧c≤9223372036854775807)∧OMs w.heap.size w' (.slice A n c) xs∧xs.map MD.m=ms∧Below w.heap.size w w'
theorem zeroB (w:World):(zeroValue 4).run Tryz.prog w= .ok (.bool false) w:=by kernel_rfl
theorem lawS:Maps.Keyed Tryz.prog 9:=Maps.string_keyed Tryz.underlying9
structure OPs (B base:Nat) (w:World) (v:Value) (n:Nat) (xs:List PD):Prop where
 own:w.ownsRow base 128 5 v n (xs.flatMap encP)
 len:xs.length=n
 at_:∀ x∈xs,TB base w x.d x.p.bears∧RB w B x.c x.p.cell
theorem OPs.read {B base:Nat} {w:World} {A:Option Addr} {n c:Nat} {xs:List PD} (h:OPs B base w (.slice A n c) n xs) (hB:B≤w.heap.size):RPs w w.heap.size A n xs:=
 ⟨Sl.own h.own,h.len,fun x hx=>⟨(h.at_ x hx).1.read,(h.at_ x hx).2.mono hB⟩⟩
theorem OPs.below {B base:Nat} {w w':World} {v:Value} {n:Nat} {xs:List PD} (h:OPs B base w v n xs) (hb:Below w.heap.size w w') (hB:B≤w.heap.size):OPs B base w' v n xs:=
 ⟨h.own.kept (Zz02 hb none) (by cases v.ownBlock <;> simp),h.len,fun x hx=>⟨(h.at_ x hx).1.below hb,(h.at_ x hx).2.keep (hb.mono hB)⟩⟩
theorem OPs.push {B base:Nat} {w w':World} {v v':Value} {n:Nat} {xs:List PD} {x:PD} (h:OPs B base w v n xs) (hB:B≤base) (hs:base≤w.heap.size) (hx:TB base w x.d x.p.bears∧RB w B x.c x.p.cell) (ho:w'.ownsRow base 128 5 v' (n+1) (xs.flatMap encP++encP x)) (hg:w.grownBy w' v.ownBlock):OPs B base w' v' (n+1) (xs++ [x]):=by
 have hb:Below B w w':=Zz04 (Below.refl _ _) h.own hg hB (ZnT hB hs);refine ⟨by simpa using ho,by rw [List.length_append,h.len];rfl,fun y hy=> ?_⟩;rcases List.mem_append.1 hy with hy | hy
 ·exact ⟨(h.at_ y hy).1.grown h.own hg (by decide),(h.at_ y hy).2.keep hb⟩
 ·simp only [List.mem_singleton] at hy
  subst hy;exact ⟨hx.1.grown h.own hg (by decide),hx.2.keep hb⟩
theorem Zz2o {w:World} {g:Nat} {t:TypeId} {cs:List Value} {base:Nat} (h:Row w g t cs) (hl:cs.length=8) (hb:base≤g):w.ownsRow base t 8 (.slice (some ⟨g,0,none⟩) 1 1) 1 cs:=
 ⟨by omega,.inr ⟨g,1,cs.toArray,rfl,hb,h,ZnR _,by unfold maxLen;omega,by simp [hl],by simp;exact ZtL (by omega)⟩⟩
theorem Zz22 {base size n g:Nat} {w:World} {e:TypeId} {v:Value} {xs:List Value} (h:w.ownsRow base e size v n xs) (hm:∃ es c,w.heap[g]? =some (.map es c)):v.ownBlock=none∨v.ownBlock≠some g:=by
 rcases h.2 with ⟨rfl,_⟩ | ⟨g',cap,cur,rfl,_,hh,_⟩
 ·exact .inl rfl
 ·refine .inr fun he=> ?_
  have:g'=g:=by simpa [Value.ownBlock] using he
  subst this;obtain ⟨es,c,hm⟩:=hm;rw [hh] at hm;cases hm
theorem OM.keptMap {base g:Nat} {w w':World} {m:Mani} {Ad Ao:Option Addr} {nd cd no co:Nat} {ts:List Value} (h:OM base w m Ad nd cd Ao no co ts) (hg:w.grownBy w' (some g)) (hm:∃ es c,w.heap[g]? =some (.map es c)):OM base w' m Ad nd cd Ao no co ts:=
 ⟨h.d.kept hg (Zz22 h.d hm),h.dl,⟨h.o.own.kept hg (Zz22 h.o.own hm),h.o.tl,fun i hi=>by
  obtain ⟨A,c,e,h3⟩:=h.o.at_ i hi;exact ⟨A,c,e,h3.kept hg (Zz22 h3 hm)⟩⟩,h.ol⟩
theorem OMs.keptMap {base g:Nat} {w w':World} {v:Value} {xs:List MD} (h:OMs base w v xs) (hg:w.grownBy w' (some g)) (hm:∃ es c,w.heap[g]? =some (.map es c)):OMs base w' v xs:=
 ⟨h.own.kept hg (Zz22 h.own hm),fun x hx=>OM.keptMap (h.at_ x hx) hg hm⟩
theorem OMs.mono_ {base base':Nat} {w:World} {v:Value} {xs:List MD} (h:OMs base w v xs) (hb:base'≤base):OMs base' w v xs:=
 ⟨Zz0b h.own hb,fun x hx=>OM.base_ (h.at_ x hx) hb⟩
theorem Zz76 {H:Type} {w:World} {P:Program} {k:TypeId} {R:Value→Option (DataW H×List MemPlace)} {b n:Nat} {D:DataW H} (h:w.ownsMap P k R b n D):∃ es c,w.heap[b]? =some (.map es c):=by
 obtain ⟨es,c,hb,_⟩:=h;exact ⟨es,c,hb⟩
theorem Zz28 {H:Type} {w w':World} {P:Program} {k:TypeId} {R:Value→Option (DataW H×List MemPlace)} {b n:Nat} {D:DataW H} (h:w.ownsMap P k R b n D) (hb:Below w.heap.size w w'):w'.ownsMap P k R b n D:=h.kept (Zz02 hb none) (by simp)
theorem Zzdp (B:Nat) (A:Option Addr) (n c:Nat) (vs:List Value) (ls:List (List Byte)) (w:World) (h:RBs w B A n vs ls) (hB:B≤w.heap.size) (hn:n≤1048576) (hls:∀ x∈ls,x.length≤1048576):
  Calls Tryz.prog 62 #[.slice A n c] w (JoinR (joinL ls) w):=by
 have H:=hid h;have HL:=hid h.len;have HLS:=hid hls;obtain ⟨ip,hip,hzp0,hzp1,hzp2⟩:=info_parts infoPg;obtain ⟨im,him,hzm0,hzm1,hzm2⟩:=info_parts infoMn;have hmm:= @run_makeMap Tryz.prog;clear h hls;go_enter Tryz.func62,Tryz.ntmps62;go_wp2_with fail;go_loopw [3,18] (fun pv iv wr=>∃ (k np cp:Nat) (Ap:Option Addr) (xs:List PD),k≤n∧np≤k∧iv= .int .i64 (k:Int)∧pv= .slice Ap np cp∧OPs B w.heap.size wr (.slice Ap np cp) np xs∧Hid (xs.map PD.p=pagesOf (ls.take k))∧Below w.heap.size w wr) (fun _ iv _=>n - (intOf iv).toNat)
 case atStart=>exact ⟨0,0,0,none, [],Nat.zero_le _,ZnR _,rfl,rfl,⟨World.ownsRow_nil _ _ _ _,rfl,fun x hx=>by cases hx⟩,by rfl,Below.refl _ _⟩
 case round=>
  obtain ⟨k,np,cp,Ap,xs,hk,hnp,rfl,rfl,hops,HF,hbr⟩:=hrel;have HOPS:=hid hops;have HBR:=hid hbr;have hBr:B≤wr.heap.size:=ZnT hB hbr.size;clear hops hbr;by_cases hlt:k < n
  ·have hlt':(k:Int) < (n:Int):=by omega
   obtain ⟨bb,o,A',c',rfl,hbb,hcell,hc1,hc2,hsl⟩:=(H.out.below (HBR.out.mono hB)).get hlt;have hkl:k < ls.length:=by rw [HL.out];exact hlt
   obtain ⟨l,hl⟩:∃ l,ls.getD k []=l:=⟨_,rfl⟩;rw [hl] at hcell hc1 hsl;have hlm:l.length≤1048576:=by
    rw [← hl,ZgD,ZgE hkl];exact HLS.out _ (List.getElem_mem _)
   have htk:ls.take (k+1)=ls.take k++ [l]:=by
    rw [ZtS hkl,← hl,ZgD,ZgE hkl];rfl
   obtain ⟨nl,hnl⟩:∃ q,l.length=q:=⟨_,rfl⟩;rw [hnl] at hcell hc1 hsl hlm;have HTK:=hid htk;have HSL:=hid hsl;have HNL:=hid hnl;clear hl hkl htk hsl hnl;go_wp2_with fail;refine (Zzeh B A' l nl c' wr HSL.out hBr hlm hc1 hc2).mono ?_;rintro e w2 ⟨dv,cv',rfl,htb,hcy,hcn,hb2⟩;obtain ⟨TT,hT⟩:∃ TT,tkPage l=TT:=⟨_,rfl⟩;rw [hT] at htb hcy hcn ⊢;have HT:=hid hT;have HOPS2:=hid (HOPS.out.below hb2 hBr);have HB2:=hid (HBR.out.trans (hb2.mono HBR.out.size));have HTB:=hid (htb.base HBR.out.size);have HSL2:=hid (HSL.out.below (hb2.mono hBr));obtain ⟨Adx,cdx,hxd,hd1,hd2,_⟩:=htb;obtain ⟨nbx,hnbx⟩:∃ q,(TT.getD Pg.zero).bears.length=q:=⟨_,rfl⟩;rw [hnbx] at hxd;subst hxd;clear hT hb2 hnbx;cases TT with
   | none=>
    have hcn':=hcn rfl;subst hcn';clear hcy hcn;have hpo:=Zz2g (ls.take k) l;rw [HT.out,← HTK.out] at hpo;have HPO:=hid hpo;clear hpo;simp only [Option.getD_none,Option.isSome_none];unfold Pg.val Pg.zero;dsimp only;have hb3:Below w2.heap.size w2 (w2.alloc (.cells #[.int .i64 0,.int .i64 0,.int .i64 0,.slice Adx nbx cdx,.slice none 0 0] 128)):=(Below.refl _ _).alloc (ZnR _) _;have HB3:=hid (HB2.out.trans (hb3.mono HB2.out.size));have HOPS3:=hid (HOPS2.out.below hb3 (ZnT hB HB2.out.size));clear hb3;go_wp2_with fail;go_roundw
    case rel=>exact ⟨k+1,np,cp,Ap,xs,by omega,by omega,by go_num,rfl,HOPS3.out,by rw [HPO.out,Option.toList_none,List.append_nil];exact HF.out,HB3.out⟩
    case measure=>simp [intOf] <;> omega
   | some p=>
    have hcy':=hcy rfl;subst hcy';clear hcy hcn;have hpo:=Zz2g (ls.take k) l;rw [HT.out,← HTK.out] at hpo;have HPO:=hid hpo;have hpc:=(Zz3a HT.out).1;have HPC:=hid hpc;clear hpo hpc;simp only [Option.getD_some,Option.isSome_some] at HTB ⊢;unfold Pg.val;have hb3:Below w2.heap.size w2 (w2.alloc (.cells #[.int .i64 p.seq,.int .i64 p.at_,.int .i64 p.of_,.slice Adx nbx cdx,.slice A' nl c'] 128)):=(Below.refl _ _).alloc (ZnR _) _;have hr3:=Row.new w2 128 #[.int .i64 p.seq,.int .i64 p.at_,.int .i64 p.of_,.slice Adx nbx cdx,.slice A' nl c'];have HB3:=hid (HB2.out.trans (hb3.mono HB2.out.size));have HOPS3:=hid (HOPS2.out.below hb3 (ZnT hB HB2.out.size));have HTB3:=hid (HTB.out.below hb3)
    have HSL3:=hid (HSL2.out.below (hb3.mono (ZnT hB HB2.out.size)));have HR3:=hid hr3;clear hb3 hr3;go_upto_region 6 with fail;generalize w2.alloc (.cells #[.int .i64 p.seq,.int .i64 p.at_,.int .i64 p.of_,.slice Adx nbx cdx,.slice A' nl c'] 128)=w3 at*;have hr:=HR3.out;have z0:=hr.cell 0;have z1:=hr.cell 1;have z2:=hr.cell 2;have z3:=hr.cell 3;have z4:=hr.cell 4;simp only [ZgS,ZgZ] at z0 z1 z2 z3 z4;clear hr;go_wp2_with (first
     | ((with_reducible show wpList _ _ _ (⟨some 30,_,_,_,_,_⟩::_) _ _);refine wpList_plain rfl (fun K hK=> ?_);refine Zz5g 126 128 (.tmp 29) rfl _ _ _ _ _ rfl ip _ _ _ _ _ Tryz.underlying126 hip hzp0 hzp1 ?_;rintro w6 g6 hg6 hr6 hb6 hz6;refine hK _ _ ?_;clear hK K;subst hg6;have HR6:=hid hr6;have HB6:=hid (HB3.out.trans (hb6.mono HB3.out.size));have HOPS6:=hid (HOPS3.out.below hb6 (ZnT hB HB3.out.size));have HTB6:=hid (HTB3.out.below hb6);have HSL6:=hid (HSL3.out.below (hb6.mono (ZnT hB HB3.out.size)));have hg6l:=hr6.lt;clear hr6 hb6 hz6)
     | ((with_reducible show wpList _ _ _ (⟨some 31,_,_,_,_,_⟩::_) _ _);go_must (refine Zz03 rfl (.tmp 28) (.tmp 30) 126 rfl w.heap.size 128 ip _ 5 72 Tryz.underlying126 hip hzp0 hzp1 hzp2 rfl (by omega) (.slice Ap np cp) np (xs.flatMap encP) rfl HOPS6.out.own w6.heap.size (some ⟨w3.heap.size,0,none⟩) 1 1 (encP ⟨p,.slice Adx nbx cdx,.slice A' nl c'⟩) rfl (Sl.own (Zz7r (base:=0) HR6.out rfl (Nat.zero_le _))) (by intro u hu;simp only [encP,List.mem_cons,List.not_mem_nil,or_false] at hu;rcases hu with rfl | rfl | rfl | rfl | rfl <;> rfl) (np+1) rfl _ rfl (by omega) (by omega) HB6.out.size ?_);intro A7 c7 w7 ho7 hg7 _))
    have hps:=HOPS6.out.push (x:=⟨p,.slice Adx nbx cdx,.slice A' nl c'⟩) hB HB6.out.size ⟨HTB6.out,⟨A',c',by rw [HPC.out,HNL.out],by rw [HPC.out,HNL.out];exact hc1,hc2,by rw [HPC.out,HNL.out];exact HSL6.out⟩⟩ ho7 hg7;have hb7:=Zz04 HB6.out HOPS6.out.own hg7 (ZnR _) HB6.out.size;have HPS:=hid hps;have HB7:=hid hb7;clear hps hb7 ho7 hg7 z0 z1 z2 z3 z4;go_roundw
    case rel=>exact ⟨k+1,np+1,c7,A7,xs++ [⟨p,.slice Adx nbx cdx,.slice A' nl c'⟩],by omega,by omega,by go_num,rfl,HPS.out,by rw [HPO.out,List.map_append,HF.out];rfl,HB7.out⟩
    case measure=>simp [intOf] <;> omega
  ·have hlt':¬ (k:Int) < (n:Int):=by omega
   obtain rfl:k=n:=by omega
   have hF:=HF.out;rw [ZtL (by rw [HL.out];exact ZnR _)] at hF;have HFP:=hid hF;obtain ⟨wp,hwp⟩:∃ x,x=wr:=⟨_,rfl⟩;subst hwp;have HRP:=hid (HOPS.out.read hBr);have hnx:=HOPS.out.len;clear hF HF;obtain ⟨L,hL⟩:∃ L,xs.map PD.p=L:=⟨_,rfl⟩;rw [hL] at HFP;have hM:(wp.alloc (.map #[] 0)).ownsMap Tryz.prog 9 (plainElem (H:=Unit) Tryz.prog 4) wp.heap.size 0 (.map []):=World.ownsMap_made wp Tryz.prog 9 (plainElem Tryz.prog 4);have hb1:Below wp.heap.size wp (wp.alloc (.map #[] 0)):=(Below.refl _ _).alloc (ZnR _) _;have HM:=hid hM;have HB1:=hid hb1;have HLL:=hid hL;have hnpk:np≤1048576:=by omega
   clear hM hb1 hL;go_wp2_with fail;generalize wp.alloc (.map #[] 0)=w1 at*;obtain ⟨gm,hgm⟩:∃ g,wp.heap.size=g:=⟨_,rfl⟩;have HGM:=hid hgm;rw [hgm] at HM ⊢;clear hgm;go_loopw [8,36] (fun ov iv wr=>∃ (k no co:Nat) (Ao:Option Addr) (ms:List MD) (D:DataW Unit),k≤np∧no≤k∧iv= .int .i64 (k:Int)∧ov= .slice Ao no co∧(no≤co∧co≤9223372036854775807)∧ms.length=no∧OMs wp.heap.size wr (.slice Ao no co) ms∧wr.ownsMap Tryz.prog 9 (plainElem (H:=Unit) Tryz.prog 4) gm k D∧Hid (KnowsM D (ms.map MD.m))∧Hid (ms.map MD.m=dedup ((L.take k).filterMap (told L)))∧Below wp.heap.size wp wr) (fun _ iv _=>np - (intOf iv).toNat)
   case atStart=>exact ⟨0,0,0,none, [],.map [],Nat.zero_le _,ZnR _,rfl,rfl,by omega,rfl,OMs.nil_ _ _,HM.out,KnowsM.nil_,by rfl,HB1.out⟩
   case round=>
    obtain ⟨k,no,co,Ao,ms,D,hk,hno,rfl,rfl,hco,hml,hom,hmap,HKN,HMS,hbr2⟩:=hrel;have HOM:=hid hom;have HMAP:=hid hmap;have HBQ:=hid hbr2;have HML:=hid hml;clear hom hmap hbr2 hml HM HB1;by_cases hlt2:k < np
    ·have hlt2':(k:Int) < (np:Int):=by omega
     obtain ⟨bb,o,rfl,hbb,hxm,hxg,hcells⟩:=(HRP.out.below HBQ.out).get hlt2;obtain ⟨x,hx⟩:∃ x,xs[k]! =x:=⟨_,rfl⟩;rw [hx] at hxm hcells hxg;have hpx:=(HRP.out.below HBQ.out).at_ x hxm;have hLk:L[k]? =some x.p:=by rw [← HLL.out,List.getElem?_map,hxg];rfl
     have hLm:x.p∈L:=by rw [← HLL.out];exact List.mem_map_of_mem hxm
     have hLt:L.take (k+1)=L.take k++ [x.p]:=by
      have hl:k < L.length:=(List.getElem?_eq_some_iff.1 hLk).1;rw [ZtS hl];rw [ZgE hl] at hLk;injection hLk with e;rw [e]
     have htc:0≤x.p.of_∧x.p.of_≤255:=by
      rw [HFP.out] at hLm;obtain ⟨c0,_,hc0⟩:=Zz31 hLm;have:=Zz3a hc0
      exact ⟨this.2.2.1,this.2.2.2.1⟩
     obtain ⟨⟨ps,pa,po,pb,pc⟩,xd,xc⟩:=x;have q0:=hcells 0 _ rfl;have q1:=hcells 1 _ rfl;have q2:=hcells 2 _ rfl;have q3:=hcells 3 _ rfl;have q4:=hcells 4 _ rfl;simp only [Nat.add_zero] at q0 q1 q2 q3 q4;obtain ⟨⟨Adx,cdx,hxd,hd1,hd2,hds⟩,⟨Acx,ccx,hxc,he1,he2,hes⟩⟩:=hpx;dsimp only at hxd hxc hd1 hds he1 hes htc hLt hLm;subst hxd hxc;obtain ⟨nbx,hnbx⟩:∃ q,pb.length=q:=⟨_,rfl⟩;obtain ⟨ncx,hncx⟩:∃ q,pc.length=q:=⟨_,rfl⟩;have hsn:=Zzek L (L.take k) ⟨ps,pa,po,pb,pc⟩;rw [← hLt] at hsn;have HSN:=hid hsn;have HLM:=hid hLm;have HPX:=hid (show PDR wr wp.heap.size ⟨⟨ps,pa,po,pb,pc⟩,.slice Adx pb.length cdx,.slice Acx pc.length ccx⟩ from ⟨⟨Adx,cdx,rfl,hd1,hd2,hds⟩,⟨Acx,ccx,rfl,he1,he2,hes⟩⟩)
     rw [hnbx] at q3 HPX;rw [hncx] at q4 HPX;clear hx hcells hxg hxm hLk hLt hLm hsn hds hes hd1 hd2 he1 he2 hnbx hncx;have hb2:Below wr.heap.size wr (wr.alloc (.cells #[.int .i64 ps,.int .i64 pa,.int .i64 po,.slice Adx nbx cdx,.slice Acx ncx ccx] 128)):=(Below.refl _ _).alloc (ZnR _) _;have hr2:=Row.new wr 128 #[.int .i64 ps,.int .i64 pa,.int .i64 po,.slice Adx nbx cdx,.slice Acx ncx ccx];have HB2:=hid (HBQ.out.trans (hb2.mono HBQ.out.size));have HR2:=hid hr2;have HOM2:=hid (HOM.out.below hb2);have HMAP2:=hid (Zz28 HMAP.out hb2);have HPX2:=hid (HPX.out.below (hb2.mono HBQ.out.size));clear hb2 hr2;go_upto_region 14 with fail;clear q0 q1 q2 q3 q4
     generalize wr.alloc (.cells #[.int .i64 ps,.int .i64 pa,.int .i64 po,.slice Adx nbx cdx,.slice Acx ncx ccx] 128)=w2 at*;by_cases h0:pa=0
     ·subst h0
      have hr:=HR2.out;have z0:=hr.cell 0;have z1:=hr.cell 1;have z2:=hr.cell 2;have z3:=hr.cell 3;have z4:=hr.cell 4;simp only [ZgS,ZgZ] at z0 z1 z2 z3 z4;clear hr;have htold:=Zzh3 (P:=L) (x:=⟨ps,0,po,pb,pc⟩) rfl;rw [htold] at HSN;clear htold;go_wp2_with fail;refine (Zzb0 w2.heap.size _ np cp xs ⟨⟨ps,0,po,pb,pc⟩,.slice Adx nbx cdx,.slice Acx ncx ccx⟩ w2 ((HRP.out.below HB2.out).mono HB2.out.size) (ZnR _) hnpk (HPX2.out.mono HB2.out.size) htc).mono ?_;rintro e w3 ⟨A4,n4,c4,ys,b,rfl,hc4,hn4,hry,hb3,hbf,hbt⟩;rw [HLL.out] at hbf hbt;have HBF:=hid hbf;have HBT:=hid hbt;have HRY:=hid hry;have HB3:=hid (HB2.out.trans (hb3.mono HB2.out.size));have HOM3:=hid (HOM2.out.below hb3)
      have HMAP3:=hid (Zz28 HMAP2.out hb3);clear hbf hbt hry hb3 z0 z1 z2 z3 z4;cases b with
      | false=>
       have hg:=HBF.out rfl;dsimp only at hg;have HG:=hid hg;clear hg;go_wp2_with fail;go_roundw
       case rel=>exact ⟨k+1,no,co,Ao,ms,D,by omega,by omega,by go_num,rfl,hco,HML.out,HOM3.out,HMAP3.out.mono (Nat.le_succ k),HKN,by rw [HSN.out,HG.out,Option.bind_none];rw [Option.toList_none,List.append_nil];exact HMS.out,HB3.out⟩
       case measure=>simp [intOf] <;> omega
      | true=>
       have hg:=HBT.out rfl;dsimp only at hg;have HG:=hid hg;clear hg;have h48:∀ y∈ys,y.p.bears.length≤48:=fun y hy=>by
        rcases Zzcs HG.out (List.mem_map_of_mem hy) with e | e
        ·rw [e]
         have h1:=HLM.out;rw [HFP.out] at h1;obtain ⟨c0,_,hc0⟩:=Zz31 h1;exact (Zz3a hc0).2.2.2.2.1
        ·rw [HFP.out] at e
         obtain ⟨c0,_,hc0⟩:=Zz31 e;exact (Zz3a hc0).2.2.2.2.1
       go_wp2_with fail;refine (Zzbl w3.heap.size A4 n4 c4 ys w3 HRY.out (ZnR _) hn4 hc4 h48).mono ?_;rintro e w4 ⟨mm,Ad,nd,cd,Ao2,no2,co2,ts2,b2,rfl,hom4,hm64,hnm,hb4,hwf,hwt⟩;have HOMM:=hid hom4;have HWF:=hid hwf;have HWT:=hid hwt;have HB4:=hid (HB3.out.trans (hb4.mono HB3.out.size));have HOM4:=hid (HOM3.out.below hb4);have HMAP4:=hid (Zz28 HMAP3.out hb4);have hgmw:gm < w4.heap.size:=HMAP4.out.lt;clear hom4 hwf hwt hb4 h48;unfold Mani.val;have hb5:Below w4.heap.size w4 (w4.alloc (.cells #[.int .i64 mm.seq,.int .i64 mm.next,.int .i64 mm.P.K,.int .i64 mm.P.H,.int .i64 mm.P.S,.int .i64 mm.extra,.slice Ad nd cd,.slice Ao2 no2 co2] 28)):=(Below.refl _ _).alloc (ZnR _) _
       have hr5:=Row.new w4 28 #[.int .i64 mm.seq,.int .i64 mm.next,.int .i64 mm.P.K,.int .i64 mm.P.H,.int .i64 mm.P.S,.int .i64 mm.extra,.slice Ad nd cd,.slice Ao2 no2 co2];have HB5:=hid (HB4.out.trans (hb5.mono HB4.out.size));have HOM5:=hid (HOM4.out.below hb5);have HMAP5:=hid (Zz28 HMAP4.out hb5);have HOMM5:=hid (HOMM.out.below hb5);have HR5:=hid hr5;have HNE:=hid (show w4.heap.size≠gm by omega);clear hb5 hr5;go_upto_region 18 with fail;generalize w4.alloc (.cells #[.int .i64 mm.seq,.int .i64 mm.next,.int .i64 mm.P.K,.int .i64 mm.P.H,.int .i64 mm.P.S,.int .i64 mm.extra,.slice Ad nd cd,.slice Ao2 no2 co2] 28)=w5 at*;obtain ⟨g5,hg5⟩:∃ g,w4.heap.size=g:=⟨_,rfl⟩;rw [hg5] at HR5 HNE ⊢
       clear hg5;have hr:=HR5.out;obtain ⟨x0,x1,x2,x3,x4,x5,x6,x7⟩:=Row.c8 hr;clear hr;go_wp2_with fail;refine (Zz5e mm w5.heap.size Ad Ao2 nd cd no2 co2 ts2 w5 HOMM5.out.read (ZnR _) hm64 hnm).mono ?_;rintro e w6 ⟨A7,n7,c7,rfl,hn7,hn71,ho7,hb6⟩;have HB6:=hid (HB5.out.trans (hb6.mono HB5.out.size));have HOM6:=hid (HOM5.out.below hb6);have HMAP6:=hid (Zz28 HMAP5.out hb6);have HOMM6:=hid (HOMM5.out.below hb6);have HR6:=hid (HR5.out.below hb6 HR5.out.lt);have HN7:=hid hn7;unfold OB at ho7;rw [hn7] at ho7;have kc:=Zz2y (P:=Tryz.prog) (c:=c7) 33 9 5 Tryz.underlying33 Tryz.underlying5 Tryz.underlying9 (Sl.own ho7);clear ho7 hb6 hn7 x0 x1 x2 x3 x4 x5 x6 x7;cases b2 with
       | false=>
        have hw:=HWF.out rfl;have HW:=hid hw;clear hw;go_wp2_with fail;go_roundw
        case rel=>exact ⟨k+1,no,co,Ao,ms,D,by omega,by omega,by go_num,rfl,hco,HML.out,HOM6.out,HMAP6.out.mono (Nat.le_succ k),HKN,by rw [HSN.out,HG.out,Option.bind_some,HW.out];rw [Option.toList_none,List.append_nil];exact HMS.out,HB6.out⟩
        case measure=>simp [intOf] <;> omega
       | true=>
        have hw:=HWT.out rfl;have HW:=hid hw;have hmay:=(Zz4r hw).1;have hkey:keyOf Tryz.prog 9 (.string (strB (pack mm)))=some (keyL mm):=Go.WideMaps.keyOf_string_mk Tryz.underlying9 (by rw [Zz1t,HN7.out];unfold maxLen;omega);obtain ⟨cb,hrun,hat⟩:=Zz9o HMAP6.out lawS Tryz.underlying131 Tryz.underlying4 (zeroB w6) hkey;obtain ⟨cb',hat',hiff⟩:=HKN.out.2 mm hmay;obtain rfl:cb=cb':=Zzhq (hat.symm.trans hat');have hcb:=hiff;have HCB:=hid hcb;have HMY:=hid hmay;have HKEY:=hid hkey;clear hw hmay hkey hcb hat hat' hiff;cases cb with
        | true=>
         have hin:mm∈ms.map MD.m:=HCB.out.1 rfl;have HIN:=hid hin;clear hin;go_wp2_with fail;go_roundw
         case rel=>exact ⟨k+1,no,co,Ao,ms,D,by omega,by omega,by go_num,rfl,hco,HML.out,HOM6.out,HMAP6.out.mono (Nat.le_succ k),HKN,by
          rw [HSN.out,HG.out,Option.bind_some,HW.out,Option.toList_some,Zz1p,← HMS.out,if_pos HIN.out];exact hid rfl,HB6.out⟩
         case measure=>simp [intOf] <;> omega
        | false=>
         have hin:¬ mm∈ms.map MD.m:=fun hh=>by have:=HCB.out.2 hh;cases this
         have HIN:=hid hin;clear hin;have hgm5:wp.heap.size≤gm:=Nat.le_of_eq HGM.out;go_upto_region 21 with (at_mapUpdate;refine wpList_mapUpdate_own _ rfl _ _ _ 131 rfl 9 4 lawS Tryz.underlying131 _ gm k D rfl HMAP6.out (by unfold maxLen;omega) _ _ (keyL mm) rfl rfl HKEY.out (.lit (.bool true)) [] (plainElem_bool Tryz.underlying4 true) ?_;intro w7 hown7 hg7)
         have HMAP7:=hid hown7;have HOM7:=hid (HOM6.out.keptMap hg7 (Zz76 HMAP6.out));have HOMM7:=hid (OM.keptMap HOMM6.out hg7 (Zz76 HMAP6.out));have HR7:=hid (show Row w7 g5 28 _ from (hg7.block g5 HR6.out.lt (fun e=>HNE.out (by injection e))).trans HR6.out);have HB7:=hid (Zz6g HB6.out hg7 hgm5 HB6.out.size);clear hown7 hg7 kc hrun;have hr:=HR7.out;obtain ⟨x0,x1,x2,x3,x4,x5,x6,x7⟩:=Row.c8 hr;clear hr;go_wp2_with (first
          | ((with_reducible show wpList _ _ _ (⟨some 70,_,_,_,_,_⟩::_) _ _);refine wpList_plain rfl (fun K hK=> ?_);refine Zz2c 41 28 (.tmp 69) rfl _ _ _ _ _ _ _ _ rfl im _ _ _ _ _ _ _ _ Tryz.underlying41 him hzm0 hzm1 ?_;rintro w8 g8 hg8 hr8 hb8 hz8;refine hK _ _ ?_;clear hK K;subst hg8;have HR8:=hid hr8;have HB8:=hid (HB7.out.trans (hb8.mono HB7.out.size));have HOM8:=hid (HOM7.out.below hb8);have HOMM8:=hid (HOMM7.out.below hb8);have HMAP8:=hid (Zz28 HMAP7.out hb8);clear hr8 hb8 hz8)
          | ((with_reducible show wpList _ _ _ (⟨some 71,_,_,_,_,_⟩::_) _ _);go_must (refine Zz03 rfl (.tmp 68) (.tmp 70) 41 rfl wp.heap.size 28 im _ 8 96 Tryz.underlying41 him hzm0 hzm1 hzm2 rfl (by omega) (.slice Ao no co) no (ms.flatMap encM) rfl (by have:=HOM8.out.own;rwa [HML.out] at this) w8.heap.size (some ⟨w7.heap.size,0,none⟩) 1 1 (encM ⟨mm,Ad,nd,cd,Ao2,no2,co2,ts2⟩) rfl (Sl.own (Zz2o (base:=0) HR8.out rfl (Nat.zero_le _))) (Zz46 _) (no+1) rfl _ rfl (by omega) (by omega) HB8.out.size ?_);intro A9 c9 w9 ho9 hg9 _))
         have hown8:=HOM8.out.own;rw [HML.out] at hown8;have hps:=OMs.push HOM8.out (x:=⟨mm,Ad,nd,cd,Ao2,no2,co2,ts2⟩) (OM.base_ HOMM8.out HB3.out.size) (by rw [HML.out];exact ho9) hg9;have hmap9:=HMAP8.out.kept hg9 (by
          rcases Zz22 hown8 (Zz76 HMAP8.out) with e | e
          ·rw [e];simp
          ·exact fun h=>e h.symm)
         have hb9:=Zz04 HB8.out hown8 hg9 (ZnR _) HB8.out.size;have hc9:=Zz14 ho9;have HPS:=hid hps;have HMAP9:=hid hmap9;have HB9:=hid hb9;clear hps hmap9 hb9 ho9 hg9 hown8 x0 x1 x2 x3 x4 x5 x6 x7;go_roundw
         case rel=>exact ⟨k+1,no+1,c9,A9,ms++ [⟨mm,Ad,nd,cd,Ao2,no2,co2,ts2⟩],D.put (keyL mm) (.lit (.bool true)),by omega,by omega,by go_num,rfl,hc9,by rw [List.length_append,HML.out];rfl,HPS.out,HMAP9.out,by rw [List.map_append];exact KnowsM.put_ HKN.out HMY.out,by
          rw [HSN.out,HG.out,Option.bind_some,HW.out,Option.toList_some,Zz1p,← HMS.out,if_neg HIN.out,List.map_append];rfl,HB9.out⟩
         case measure=>simp [intOf] <;> omega
     ·have htold:=Zzi2 (P:=L) (x:=⟨ps,pa,po,pb,pc⟩) h0
      rw [htold] at HSN;clear htold;have hr:=HR2.out;have z0:=hr.cell 0;have z1:=hr.cell 1;have z2:=hr.cell 2;have z3:=hr.cell 3;have z4:=hr.cell 4;simp only [ZgS,ZgZ] at z0 z1 z2 z3 z4;clear hr;go_wp2_with fail;go_roundw
      case rel=>exact ⟨k+1,no,co,Ao,ms,D,by omega,by omega,by go_num,rfl,hco,HML.out,HOM2.out,HMAP2.out.mono (Nat.le_succ k),HKN,by rw [HSN.out];rw [Option.toList_none,List.append_nil];exact HMS.out,HB2.out⟩
      case measure=>simp [intOf] <;> omega
    ·have hlt2':¬ (k:Int) < (np:Int):=by omega
     obtain rfl:k=np:=by omega
     have hLn:L.length=k:=by rw [← HLL.out,List.length_map,hnx]
     have HMS2:=hid (show ms.map MD.m=dedup ((pagesOf ls).filterMap (told (pagesOf ls))) by
      rw [HMS.out,ZtL (by omega),HFP.out])
     go_wp2_with fail;refine (Zz7v wp.heap.size ms Ao no co wr HOM.out HML.out (by omega)).mono ?_;rintro e w9 ⟨rfl,hom9,hg9⟩;have ho:=HOM.out.own;rw [HML.out] at ho;have hb9:=Zz04 HBQ.out ho hg9 (ZnR _) HBQ.out.size;have HOM9:=hid hom9;have HB9:=hid (HBR.out.trans (hb9.mono HBR.out.size));clear hom9 hg9 hb9 ho;go_wp2_with fail;go_ret
     have hsm:(ssort ltMD ms).map MD.m=joinL ls:=by
      rw [Zz9i (lt:=ltMD) (lt2:=ltM) MD.m (fun _ _=>rfl),HMS2.out];rfl
     exact ⟨Ao,no,co,_,rfl,by rw [← hsm,List.length_map,Zz09,HML.out],hco,HOM9.out.mono_ HBR.out.size,hsm,HB9.out⟩
theorem Zz6j (F:Nat→Prop) (g pg:Nat) (d:Dr) (mk:Nat) (w:World) (h:DrvE F w g pg d) (hok:DOk mk d):
  Calls Tryz.prog 22 #[.pointer (some ⟨g,0,none⟩)] w (JoinR (joinL d.L) w):=by
 have H:=hid h;have HOK:=hid hok;clear h hok;go_enter Tryz.func22,Tryz.ntmps22;go_wp2_with fail;refine (Zz75 F g pg d mk w H.out HOK.out).mono ?_;rintro e w1 ⟨A1,c1,vs1,rfl,ho1,-,hb1⟩;obtain ⟨n,hn⟩:∃ n,d.L.length=n:=⟨_,rfl⟩;rw [hn] at ho1;have hr:=ho1.read hn;have hnb:n≤1048576:=by rw [← hn];have:=HOK.out.len;have:=HOK.out.room;omega
 have hl:∀ x∈d.L,x.length≤1048576:=fun x hx=>by rw [HOK.out.cells x hx];omega
 rw [hn];have HB:=hid hb1;have HR:=hid hr;have HL:=hid hl;clear ho1 hb1 hr hl hn;go_wp2_with fail;refine (Zzdp _ A1 n c1 vs1 d.L w1 HR.out (ZnR _) hnb HL.out).mono ?_;rintro e w2 ⟨A2,n2,c2,xs,rfl,hn2,hc2,ho2,hx2,hb2⟩;have HX:=hid (show JoinR (joinL d.L) w (.returned (.slice A2 n2 c2)) w2 from ⟨A2,n2,c2,xs,rfl,hn2,hc2,⟨Zz0b ho2.own HB.out.size,fun x hx=>OM.base_ (ho2.at_ x hx) HB.out.size⟩,hx2,HB.out.trans (hb2.mono HB.out.size)⟩);clear hn2 hc2 ho2 hx2 hb2;go_wp2_with fail;go_ret
 exact HX.out
end Go.Proofs.YtnknjeipfjdjoaaGreatDoor
namespace Wells
open Go Go.RowKit
def inL (l:List (List Byte)) (p:List Byte):Bool:=l.any fun c=>decide (c=p)
def wholeM (m:Mani) (l:List (List Byte)):Bool:=m.may && (pagesL m.seq (pack m)).all (inL l)
end Wells
namespace Go.Proofs.YtnknjeipfjdjoaaGreatDoor
open Go.RowKit Wells
theorem Zzf3 (c p:List Byte) (A Ap:Option Addr) (n cc np cp gp B:Nat) (b:Bool) (w:World) (hr:Row w gp 33 [.slice Ap np cp]) (hc:Sl w B 1 A n (c.map bv8)) (hp:Sl w B 1 Ap np (p.map bv8)) (hb:decide (c=p)=b):
  Calls Tryz.prog 55 #[.slice A n cc,.pointer (some ⟨gp,0,none⟩)] w fun e w'=>e= .returned (.bool b)∧w=w':=by
 have c0:=hr.cell 0;simp only [ZgZ] at c0;have HC:=hid hc;have HP:=hid hp;have HB:=hid hb;clear hr hc hp hb;go_enter Tryz.func55,Tryz.ntmps55;go_wp2_with fail;refine (Zz1w b B A Ap c p n np cc cp w HC.out HP.out HB.out).mono ?_;rintro e w' ⟨rfl,rfl⟩;go_wp2_with fail;go_ret
 exact ⟨rfl,rfl⟩
theorem Zzf2 (p:List Byte) (B:Nat) (A Ap:Option Addr) (n c np cp gp:Nat) (vs:List Value) (ls:List (List Byte)) (b:Bool) (w:World) (h:RBs w B A n vs ls) (hn:n≤9223372036854775807) (hr:Row w gp 33 [.slice Ap np cp]) (hp:Sl w B 1 Ap np (p.map bv8)) (hb:inL ls p=b):
  Calls Tryz.prog 97 #[.slice A n c,.func (Fn.func 55) #[] #[.pointer (some ⟨gp,0,none⟩)]] w fun e w'=>(∃ z:Int,e= .returned (.int .i64 z)∧decide (0≤z)=b)∧w=w':=by
 have HL:=hid h.len;have HB:=hid hb;have H:=hid h;have HR:=hid hr;have HP:=hid hp;clear hb h hr hp;go_enter Tryz.func97,Tryz.ntmps97;go_wp2_with fail;go_loopw [8] (fun i wr=>∃ k:Nat,k≤n∧i= .int .i64 k∧w=wr∧Hid (∀ j,j < k→decide (ls.getD j default=p)=false)) (fun i _=>n - (intOf i).toNat)
 case atStart=>exact ⟨0,Nat.zero_le _,rfl,(by trivial),hid (fun j hj=>absurd hj (by omega))⟩
 case round=>
  obtain ⟨k,hk,rfl,rfl,HK⟩:=hrel;by_cases hlt:k < n
  ·obtain ⟨bb,o,A',c',e',hbb,hcell,hc1,hc2,hsl⟩:=H.out.get hlt
   obtain ⟨x,hx⟩:∃ x,ls.getD k []=x:=⟨_,rfl⟩;have HXX:=hid hx;rw [hx] at hcell hsl hc1;subst e';have HSL:=hid hsl;obtain ⟨q,hq⟩:∃ q,decide (x=p)=q:=⟨_,rfl⟩;have HQ:=hid hq;clear hx hsl hq;go_wp2_with fail;refine (Zzf3 x p A' Ap x.length c' np cp gp B q _ HR.out HSL.out HP.out HQ.out).mono ?_;rintro e w3 ⟨rfl,rfl⟩;cases q with
   | true=>
    have hyes:b=true:=by rw [← HB.out];exact Zzby (es:=ls) (p:=fun c=>decide (c=p)) (k:=k) (by rw [HL.out];exact hlt) (by show decide (ls.getD k []=p)=true;rw [HXX.out];exact HQ.out)
    subst hyes;go_wp2_with fail;go_ret
    exact ⟨⟨_,rfl,by simp⟩,rfl⟩
   | false=>
    go_wp2_with fail;go_roundw
    case rel=>exact ⟨k+1,by omega,by go_num,(by trivial),hid (fun j hj=>by
     rcases Nat.lt_or_ge j k with h | h
     ·exact HK.out j h
     ·have e:j=k:=by omega
      rw [e,show ls.getD k default=x from HXX.out];exact HQ.out)⟩
    case measure=>simp [intOf];omega
  ·obtain rfl:k=n:=by omega
   have hyes:b=false:=by rw [← HB.out];exact Zzhd (es:=ls) (p:=fun c=>decide (c=p)) (fun j hj=>HK.out j (by rw [HL.out] at hj;exact hj))
   subst hyes;go_wp2_with fail;go_ret
   exact ⟨⟨_,rfl,by simp⟩,rfl⟩
theorem Zzdd (p:List Byte) (B:Nat) (A Ap:Option Addr) (n c np cp gp:Nat) (vs:List Value) (ls:List (List Byte)) (b:Bool) (w:World) (h:RBs w B A n vs ls) (hn:n≤9223372036854775807) (hr:Row w gp 33 [.slice Ap np cp]) (hp:Sl w B 1 Ap np (p.map bv8)) (hb:inL ls p=b):
  Calls Tryz.prog 54 #[.slice A n c,.func (Fn.func 55) #[] #[.pointer (some ⟨gp,0,none⟩)]] w fun e w'=>e= .returned (.bool b)∧w=w':=by
 have HR:=hid hr;clear hr;go_enter Tryz.func54,Tryz.ntmps54;go_wp2_with fail;refine (Zzf2 p B A Ap n c np cp gp vs ls b w h hn HR.out hp hb).mono ?_;rintro e w3 ⟨⟨z,rfl,hr⟩,rfl⟩;have HZ:=hid hr;clear hr;go_wp2_with fail;go_ret
 exact ⟨Zz0a HZ.out,rfl⟩
theorem Zz90 (F:Nat→Prop) (g pg:Nat) (d:Dr) (mk:Nat) (m:Mani) (B:Nat) (Ad Ao:Option Addr) (nd cd no co:Nat) (ts:List Value) (b:Bool) (w:World) (h:DrvE F w g pg d) (hok:DOk mk d) (hm:RM w B m Ad nd cd Ao no co ts) (hB:B≤w.heap.size) (h64:M64 m) (hnm:∀ e∈m.objs,e.name.length≤1048576) (hb:wholeM m d.L=b):
  Calls Tryz.prog 16 #[.pointer (some ⟨g,0,none⟩),m.val (.slice Ad nd cd) (.slice Ao no co)] w fun e w'=>e= .returned (.bool b)∧Below w.heap.size w w':=by
 have hbw:Below w.heap.size w (w.alloc (.cells #[.int .i64 m.seq,.int .i64 m.next,.int .i64 m.P.K,.int .i64 m.P.H,.int .i64 m.P.S,.int .i64 m.extra,.slice Ad nd cd,.slice Ao no co] 28)):=(Below.refl _ _).alloc (ZnR _) _;have H1:=hid (h.new_ hbw);have hx:=Row.new w 28 #[.int .i64 m.seq,.int .i64 m.next,.int .i64 m.P.K,.int .i64 m.P.H,.int .i64 m.P.S,.int .i64 m.extra,.slice Ad nd cd,.slice Ao no co];have HX:=hid hx;have HM:=hid (hm.below (hbw.mono hB));have HBW:=hid hbw;have hll:=hok.len;have hrm:=hok.room;obtain ⟨x0,x1,x2,x3,x4,x5,x6,x7⟩:=Row.c8 hx;have HB:=hid hb
 have hzw:B≤(w.alloc (.cells #[.int .i64 m.seq,.int .i64 m.next,.int .i64 m.P.K,.int .i64 m.P.H,.int .i64 m.P.S,.int .i64 m.extra,.slice Ad nd cd,.slice Ao no co] 28)).heap.size:=ZnT hB hbw.size;have HZW:=hid hzw;clear h hm hbw hx hb hzw;unfold Mani.val;go_enter Tryz.func16,Tryz.ntmps16;go_wp2_with fail;generalize w.alloc (.cells #[.int .i64 m.seq,.int .i64 m.next,.int .i64 m.P.K,.int .i64 m.P.H,.int .i64 m.P.S,.int .i64 m.extra,.slice Ad nd cd,.slice Ao no co] 28)=w1 at*;obtain ⟨bm,hbm⟩:∃ bm,m.may=bm:=⟨_,rfl⟩;refine (Zzfw m B Ad Ao nd cd no co ts bm w1 HM.out HZW.out h64 hnm hbm).mono ?_;rintro e w2 ⟨rfl,hb2⟩;have hr2:=HX.out.below hb2 HX.out.lt;have HBM:=hid hbm
 have HM2:=hid (HM.out.below (hb2.mono HZW.out));have HZ2:=hid (ZnT HZW.out hb2.size);have HB2:=hid (HBW.out.trans (hb2.mono HBW.out.size));have H2:=hid (H1.out.new_ hb2);clear hbm hb2 x0 x1 x2 x3 x4 x5 x6 x7;cases bm with
 | false=>
  have hbf:b=false:=by rw [← HB.out];unfold wholeM;rw [HBM.out];rfl
  subst hbf;clear hr2;go_wp2_with fail;go_ret
  exact ⟨rfl,HB2.out⟩
 | true=>
  have hbt:(pagesL m.seq (pack m)).all (inL d.L)=b:=by rw [← HB.out];unfold wholeM;rw [HBM.out];rfl
  have HBT:=hid hbt;have HX2:=hid hr2;clear hbt hr2;go_wp2_with fail;refine (Zz75 F g pg d mk w2 H2.out hok).mono ?_;rintro e w3 ⟨A,c,vs,rfl,ho,-,hb3⟩;have hr3:=HX2.out.below hb3 HX2.out.lt;obtain ⟨x0,x1,x2,x3,x4,x5,x6,x7⟩:=Row.c8 hr3;have HO:=hid ho;have HB3:=hid (HB2.out.trans (hb3.mono HB2.out.size));have HM3:=hid (HM2.out.below (hb3.mono HZ2.out));have HZ3:=hid (ZnT HZ2.out hb3.size);clear hr3 ho hb3;go_wp2_with fail;refine (Zz3v m B Ad Ao nd cd no co ts w3 HM3.out HZ3.out h64 hnm).mono ?_;rintro e w4 ⟨Ap,cp,vsp,rfl,hop,hb4⟩;obtain ⟨N,hN⟩:∃ N,(pagesL m.seq (pack m)).length=N:=⟨_,rfl⟩;have hn9:N≤9:=by rw [← hN];exact Zz18 m
  rw [hN] at hop ⊢;have HN:=hid hN;have HOP:=hid (hop.read hN);have HO4:=hid ((HO.out.below hb4).read rfl);have HB4:=hid (HB3.out.trans (hb4.mono HB3.out.size));clear hop hb4 hN x0 x1 x2 x3 x4 x5 x6 x7;go_wp2_with fail;go_loopw [16] (fun i wr=>∃ k:Nat,k≤N∧i= .int .i64 k∧Below w4.heap.size w4 wr∧Hid (∀ j,j < k→inL d.L ((pagesL m.seq (pack m)).getD j [])=true)) (fun i _=>N - (intOf i).toNat)
  case atStart=>exact ⟨0,Nat.zero_le _,rfl,Below.refl _ _,hid (fun j hj=>absurd hj (by omega))⟩
  case round=>
   obtain ⟨k,hk,rfl,hbr,HK⟩:=hrel;have HBR:=hid hbr;by_cases hlt:k < N
   ·have hlt':(k:Int) < (N:Int):=by omega
    obtain ⟨bb,o,A',c',e',hbb,hcell,hc1,hc2,hsl⟩:=(HOP.out.below hbr).get hlt;obtain ⟨x,hx⟩:∃ x,(pagesL m.seq (pack m)).getD k []=x:=⟨_,rfl⟩;have HXX:=hid hx;rw [hx] at hcell hsl hc1;subst e';have HSL:=hid hsl;obtain ⟨q,hq⟩:∃ q,inL d.L x=q:=⟨_,rfl⟩;have HQ:=hid hq;have hb5:Below wr.heap.size wr (wr.alloc (.cells #[.slice A' x.length c'] 33)):=(Below.refl _ _).alloc (ZnR _) _;have HR5:=hid (Row.new wr 33 #[.slice A' x.length c']);have HB5:=hid hb5;clear hx hsl hq hbr hb5;go_wp2_with fail;generalize wr.alloc (.cells #[.slice A' x.length c'] 33)=w5 at*
    refine (Zzdd x w4.heap.size A A' d.L.length c x.length c' wr.heap.size vs d.L q w5 (HO4.out.below (HBR.out.trans (HB5.out.mono HBR.out.size))) (by omega) HR5.out (HSL.out.below (HB5.out.mono HBR.out.size)) HQ.out).mono ?_;rintro e w6 ⟨rfl,rfl⟩;cases q with
    | false=>
     have hbf:b=false:=by
      rw [← HBT.out,List.all_eq_false];refine ⟨x,?_,by rw [HQ.out];decide⟩;rw [← HXX.out,ZgD,ZgE (by rw [HN.out];exact hlt)];exact List.getElem_mem _
     subst hbf;go_wp2_with fail;go_ret
     exact ⟨rfl,HB4.out.trans ((HBR.out.trans (HB5.out.mono HBR.out.size)).mono HB4.out.size)⟩
    | true=>
     go_wp2_with fail;go_roundw
     case rel=>exact ⟨k+1,by omega,by go_num,HBR.out.trans (HB5.out.mono HBR.out.size),hid (fun j hj=>by
      rcases Nat.lt_or_ge j k with h | h
      ·exact HK.out j h
      ·have e:j=k:=by omega
       rw [e,HXX.out];exact HQ.out)⟩
     case measure=>simp [intOf];omega
   ·have hlt':¬ (k:Int) < (N:Int):=by omega
    obtain rfl:k=N:=by omega
    have hbf:b=true:=by
     rw [← HBT.out,List.all_eq_true];intro x hx;obtain ⟨j,hj,rfl⟩:=List.getElem_of_mem hx;have:=HK.out j (by rw [HN.out] at hj;exact hj)
     rwa [ZgD,ZgE hj] at this
    subst hbf;go_wp2_with fail;go_ret
    exact ⟨rfl,HB4.out.trans (HBR.out.mono HB4.out.size)⟩
end Go.Proofs.YtnknjeipfjdjoaaGreatDoor
