/- RDrvApp RDrvRew OpCut ST STR Dj -/
import Derived.Deep.DeepCutAuto
import Derived.ArgAppend
import Derived.Test.YtnknjeipfjdjoaaGreatDoorBScanTells14
import Derived.Test.YtnknjeipfjdjoaaGreatDoorBScanTells30
import Derived.Test.YtnknjeipfjdjoaaGreatDoorBScanTells35
set_option maxHeartbeats 8000000
set_option maxRecDepth 20000
set_option linter.unusedSimpArgs false
set_option linter.unusedVariables false
set_option linter.unusedSectionVars false
namespace Go.Proofs.YtnknjeipfjdjoaaGreatDoor
open Go.RowKit Wells
theorem Zzd4 {base size n:Nat} {w w':World} {e:TypeId} {v:Value} {xs:List Value} (h:w.ownsRow base e size v n xs) (hb:Below w.heap.size w w'):w'.ownsRow base e size v n xs:=h.kept (Zz02 hb none) (by cases v.ownBlock <;> simp)
theorem RDrv.appended {F:Nat→Prop} {w w2 w3:World} {g pg:Nat} {lv bv lv' xv:Value} {lvs bvs:List Value} {d:Dr} {x:List Byte} (h:RDrv F w g pg lv lvs bv bvs d) (hb2:Below w.heap.size w w2) (hx:OB w.heap.size w2 xv x) (o:Obj)
  (ho3:w3.ownsRow 0 33 1 lv' (d.L.length+1) (lvs++ [xv])) (gr3:(w2.alloc o).grownBy w3 lv.ownBlock) (hwh:∀ k,lv'.ownBlock=some k→(lv.ownBlock=some k∨k=(w2.alloc o).heap.size)∧k < w3.heap.size):
  RDrv (Ext F w w3) (w3.setCell ⟨g,2,none⟩ lv') g pg lv' (lvs++ [xv]) bv bvs { d with L:=d.L++ [x]}∧Only F w w3∧Row w3 g 56 (rdRow pg d lv bv):=by
 have hsz:=hb2.size;have hb2a:Below w.heap.size w (w2.alloc o):=hb2.alloc hsz o;have hsa:(w2.alloc o).heap.size=w2.heap.size+1:=by simp
 have hs3:=gr3.size;have hO:Only (fun k=>lv.ownBlock=some k) w w3:=(Only.of_new hb2a).trans (Only.of_grown (F:=fun k=>lv.ownBlock=some k) gr3 (fun k e=>e)) (fun _ _ hk=>hk);have hOF:Only F w w3:=hO.mono (fun k hk=>h.l.iv k hk);have row3:=h.row.only hO (fun e=>Zz10 h.l.own.own h.row (by decide) g e rfl);have pow3:=h.pow.only hO (fun e=>Zz10 h.l.own.own h.pow (by decide) pg e rfl);have L3:OBs 0 w3 lv' (lvs++ [xv]) (d.L++ [x]):=(h.l.own.below hb2a).push (x:=x) (OB.below (base:=0) (Zz0b hx (Nat.zero_le _)) ((Below.refl _ _).alloc (ZnR _) _)) ho3 gr3;have B3:OBs 0 w3 bv bvs d.B:=h.b.own.only hO (fun k hk e=>h.sep k e hk) (fun y hy k hk e=>by
  obtain ⟨l',hl'⟩:=h.b.own.elem hy;rcases Zz0i hl' h.l.own.own (by decide) with h1 | h1
  ·rw [h1] at hk;cases hk
  ·exact h1 (hk.trans e.symm))
 have hxn:∀ k,xv.ownBlock=some k→w.heap.size≤k∧k < w3.heap.size:=fun k hk=>by
  have:=Zz2q hx k hk
  omega
 have hext:∀ k,F k→Ext F w w3 k:=fun k hk=> .inl hk
 have hxe:In xv (Ext F w w3):=fun k hk=> .inr (hxn k hk)
 have hve:In lv' (Ext F w w3):=fun k hk=>by
  obtain ⟨h1,h2⟩:=hwh k hk;rcases h1 with h1 | h1
  ·exact .inl (h.l.iv k h1)
  ·exact .inr ⟨by omega,h2⟩
 have hes:∀ y∈lvs++ [xv],In y (Ext F w w3):=fun y hy=>by
  rcases List.mem_append.1 hy with hy | hy
  ·exact (h.l.is y hy).mono hext
  ·rw [List.mem_singleton] at hy;subst hy;exact hxe
 refine ⟨⟨row3.set 2 lv',pow3.far (Ne.symm h.ne) _,.inl h.fg,.inl h.fp,fun k hk=> ?_,Lst.set_ L3 hve hes row3 (by decide) (by decide) _ _,Lst.set_ B3 (h.b.iv.mono hext) (fun y hy=>(h.b.is y hy).mono hext) row3 (by decide) (by decide) _ _,fun k hk e=> ?_⟩,hOF,row3⟩
 ·have:k < w3.heap.size:=by
   rcases hk with hk | hk
   ·have:=h.lt k hk;omega
   ·exact hk.2
  simpa [World.setCell] using this
 ·rcases (hwh k hk).1 with h1 | h1
  ·exact h.sep k h1 e
  ·have:=h.lt k (h.b.iv k e)
   omega
theorem RDrv.widen {F:Nat→Prop} {w w1 w2 w':World} {g pg:Nat} {lv bv:Value} {lvs bvs:List Value} {d:Dr} (h:RDrv (Ext F w1 w2) w' g pg lv lvs bv bvs d) (hs:w.heap.size≤w1.heap.size) (h2:w2.heap.size≤w'.heap.size) (hF:∀ k,F k→k < w'.heap.size):RDrv (Ext F w w') w' g pg lv lvs bv bvs d:=
 h.more (fun k hk=>by rcases hk with hk | hk;exact .inl hk;exact .inr ⟨by omega,by omega⟩) (fun k hk=>by rcases hk with hk | hk;exact hF k hk;exact hk.2)
theorem Zz9m (F:Nat→Prop) (g pg:Nat) (d:Dr) (m:Nat) (A:Option Addr) (l:List Byte) (n c:Nat) (w:World) (h:RDrvE F w g pg d) (hok:DOk m d) (hm:m≤1000000) (hsl:∀ w',Only F w w'→Sl w' w'.heap.size 1 A n (l.map bv8)) (hn:n≤1048576):
  Calls Tryz.prog 39 #[.pointer (some ⟨g,0,none⟩),.slice A n c] w fun e w'=>e= .returned (.int .i64 (d.append l).2)∧RDrvE (Ext F w w') w' g pg (d.append l).1∧Only F w w':=by
 obtain ⟨lv,lvs,bv,bvs,h⟩:=h;have hln:l.length=n:=by have:=(hsl w (Only.refl F w)).len;simpa using this
 have HLN:=hid hln;have HSL:=hid hsl;obtain ⟨S,hS⟩:∃ S,d.append l=S:=⟨_,rfl⟩;rw [hS];have HS:=hid hS;clear hS hsl;have hsame:RDrvE (Ext F w w) w g pg d:=⟨_,_,_,_,h.ext_⟩;obtain ⟨Al,cl,rfl,hcl1,hcl2⟩:=h.l.own.form;obtain ⟨nl,hnl⟩:∃ k,d.L.length=k:=⟨_,rfl⟩;rw [hnl] at h hcl1;have HNL:=hid hnl;have hlen:=hok.len;have hroom:=hok.room;have hwt:=hok.wait;have c0:=h.row.cell 0;have e0:(rdRow pg d (.slice Al nl cl) (bv))[0]? =some (.int .i64 d.room):=rfl;rw [e0] at c0;clear e0;have c1:=h.row.cell 1;have e1:(rdRow pg d (.slice Al nl cl) (bv))[1]? =some (.pointer (some ⟨pg,0,none⟩)):=rfl;rw [e1] at c1;clear e1;have c2:=h.row.cell 2
 have e2:(rdRow pg d (.slice Al nl cl) (bv))[2]? =some (.slice Al nl cl):=rfl;rw [e2] at c2;clear e2;have c6:=h.row.cell 6;have e6:(rdRow pg d (.slice Al nl cl) (bv))[6]? =some (.bool d.lost):=rfl;rw [e6] at c6;clear e6;rw [hnl] at hlen hwt;clear hnl;by_cases h64:n=64
 rotate_left
 ·have hs:S=(d,1):=by rw [← HS.out];unfold Dr.append;rw [if_pos (by rw [HLN.out];exact h64)]
  subst hs;have hb64:((n:Int) !=64)=true:=by simp;omega
  clear hln;go_enter Tryz.func39,Tryz.ntmps39;go_wp2_with fail;go_ret
  exact ⟨rfl,hsame,Only.refl _ _⟩
 subst h64;cases hlo:d.lost with
 | true=>
  rw [hlo] at c6;have hs:S=(d,5):=by rw [← HS.out];unfold Dr.append;rw [if_neg (by rw [HLN.out];simp),hlo];rfl
  subst hs;clear hln hlo;go_enter Tryz.func39,Tryz.ntmps39;go_wp2_with fail;go_ret
  exact ⟨rfl,hsame,Only.refl _ _⟩
 | false=>
  rw [hlo] at c6;have HLO:=hid hlo;clear hlo hln;by_cases hfull:nl=d.room
  ·have hs:S=(d,7):=by rw [← HS.out];unfold Dr.append;rw [if_neg (by rw [HLN.out];simp),HLO.out,HNL.out,if_neg (by simp),if_pos (by omega)]
   subst hs;have HH:=hid h;subst hfull;have hge:(((d.room:Nat):Int)==((d.room:Nat):Int))=true:=by simp
   clear h;go_enter Tryz.func39,Tryz.ntmps39;go_wp2_with fail;go_region_held3 (fun w'=>w'.cell? ⟨g,2,none⟩=some (.slice Al d.room cl)∧w'.cell? ⟨g,0,none⟩=some (.int .i64 (d.room:Int))) (first | exact ⟨c2,c0⟩ | assumption) (fail)
   go_wp2_with fail;go_ret
   exact ⟨rfl,hsame.drew_,(Only.refl _ _).drew⟩
  ·have hlt2:nl < d.room:=by omega
   have hge:((nl:Int)==(d.room:Int))=false:=by simp;omega
   obtain ⟨i1,hi',hz0',hz1',hz2'⟩:=info_parts infoBs;obtain ⟨iB,hiB,hzB0,hzB1,hzB2⟩:=info_parts infoB;have hgl:=h.row.lt;have p0:=h.pow.cell 0;have e0:(pw d.s)[0]? =some (.bool d.s.off):=rfl;rw [e0] at p0;clear e0;go_enter Tryz.func39,Tryz.ntmps39;go_wp2_with fail;go_region_held3 (fun w'=>w'.cell? ⟨g,2,none⟩=some (.slice Al nl cl)∧w'.cell? ⟨g,0,none⟩=some (.int .i64 (d.room:Int))) (first | exact ⟨c2,c0⟩ | assumption) (fail)
   go_wp2_with fail;have hl:=hok.left;have ho1:=hok.offs.1;have ho2:=hok.offs.2;refine (Zz8u pg d.s w.drew h.pow.drew (fun _=>hl) ⟨ho1,by omega⟩).mono ?_;rintro e w1 ⟨rfl,hp1,hg1⟩;have hz1:w.heap.size≤w1.heap.size:=hg1.size;have h1:=h.drew_.power hp1 hg1;have o1:Only F w w1:=(Only.refl F w).drew.trans (Only.of_grown (F:=F) hg1 (fun k e=>by injection e with e;rw [← e];exact h.fp)) (fun _ _ hk=>hk);have H1:=hid h1;have O1:=hid o1;have HF1:=hid (show ∀ k,F k→k < w1.heap.size from fun k hk=>Nat.lt_of_lt_of_le (h.lt k hk) hz1);have HFG:=hid h.fg;clear hp1 hg1 hge;cases hoff:d.s.off with
   | true=>
    have hgo:d.s.goes=false:=by unfold Pw.goes;rw [hoff];rfl
    have hst:d.s.step=d.s:=by unfold Pw.step;rw [hoff];rfl
    have hs:S=(d,14):=by rw [← HS.out];unfold Dr.append;rw [if_neg (by rw [HLN.out];simp),HLO.out,HNL.out,if_neg (by simp),if_neg (by omega),if_pos hoff]
    subst hs;rw [hst] at h1;have hF:RDrvE (Ext F w w1) w1 g pg d:=⟨_,_,_,_,h1.ext_.widen hz1 (ZnR _) HF1.out⟩;have HF:=hid hF;clear hF h1 hst h hsame;rw [hgo];clear hgo;go_wp2_with fail;go_ret
    exact ⟨rfl,HF.out,O1.out⟩
   | false=>
    have hg1:=h1.row.lt;have c2:w1.cell? ⟨g,2,none⟩=some (.slice Al nl cl):=h1.row.cell 2;have c3:w1.cell? ⟨g,3,none⟩=some (.int .i64 (d.wait:Int)):=h1.row.cell 3;obtain ⟨nw,hnw⟩:∃ k,d.wait+1=k:=⟨_,rfl⟩;have e55:IntKind.i64.wrap ((d.wait:Int)+1)=(nw:Int):=by rw [IntKind.wrap_i64];omega
    have HNW:=hid hnw;have HOFF:=hid hoff;clear hnw hoff h1 o1 h hsame;go_wp2_with fail;refine Org.begin [17] (fun w'=>w'.cell? ⟨g,2,none⟩=some (.slice Al nl cl)∧w'.cell? ⟨g,3,none⟩=some (.int .i64 (d.wait:Int))) [0,1,2,3,4,5,6,10,11,12,13,14,7,8,9,15,16,17,18,19,20] (by kernel_rfl) (⟨c2,c3⟩) (fun hS=> ?_);(refine Org.yV (SM.of hS) ?_;try simp only [aS,aN,aA,a0,a1]);(refine Org.fA (v:= ?_) (SM.of hS) ?_ ?_;rotate_left;(focus (intro w;refine Pure.val ?_;go_simp;(try with_reducible rfl);done));try simp only [aS,aN,aA,a0,a1]);iterate 3 (refine Org.yV (SM.of hS) ?_;try simp only [aS,aN,aA,a0,a1])
    (refine Org.yA (v:= ?_) (SM.of hS) ?_ ?_;rotate_left;(focus (intro w hSw;(try dsimp only at hSw);have q2:=hSw.1;refine Pure.val ?_;go_simp;(try with_reducible rfl);done));try simp only [aS,aN,aA,a0,a1]);(refine Org.yV (SM.of hS) ?_;try simp only [aS,aN,aA,a0,a1]);iterate 3 (refine Org.fA (v:= ?_) (SM.of hS) ?_ ?_;rotate_left;(focus (intro w;refine Pure.val ?_;go_simp;(try with_reducible rfl);done));try simp only [aS,aN,aA,a0,a1])
    (refine Org.yA (v:= ?_) (SM.of hS) ?_ ?_;rotate_left;(focus (intro w hSw;(try dsimp only at hSw);have q3:=hSw.2;refine Pure.val ?_;go_simp;(try with_reducible rfl);done));try simp only [aS,aN,aA,a0,a1]);(refine Org.fA (v:= ?_) (SM.of hS) ?_ ?_;rotate_left;(focus (intro w;refine Pure.val ?_;go_simp;(try with_reducible rfl);done));try simp only [aS,aN,aA,a0,a1]);refine Org.gA fun K hK=> ?_
    refine Zz0k (.const (.slice none 0 0)) (.tmp 47) 33 rfl w1.heap.size 5 iB (.int .u8 0) 1 1 Tryz.underlying33 hiB hzB0 hzB1 hzB2 rfl (by omega) (.slice none 0 0) 0 [] rfl (World.ownsRow_nil _ _ _ _) _ A 64 c (l.map bv8) rfl (HSL.out _ O1.out.drew) (fun v hv=>by obtain ⟨b,_,rfl⟩:=List.mem_map.1 hv;rfl) 64 rfl (l.map bv8) rfl (by omega) (by omega) (ZnR _) ?_;intro A2 cc2 w2 o2 g2 _;have hb12:Below w1.heap.size w1 w2:=(Zz05 (Below.refl _ w1)).grown g2 (ZnR _) (fun k hk=>by cases hk);have HB12:=hid hb12;have HO2:=hid o2;refine hK.out _ _ ⟨by rw [hb12.cell (p:=⟨g,2,none⟩) hg1];exact c2,by rw [hb12.cell (p:=⟨g,3,none⟩) hg1];exact c3⟩ (fun hS2=> ?_);clear hb12 o2 g2;clear hK K hS;have hS:=hS2
    clear hS2;try simp only [aS,aN,aA,a0,a1]
    refine Org.gA fun K hK=> ?_
    go_simp;have hbA:Below w2.heap.size w2 (w2.alloc (.cells #[.slice A2 64 cc2] 33)):=(Below.refl _ _).alloc (ZnR _) _;have HBA:=hid hbA;refine hK.out _ _ ⟨by rw [hbA.cell (p:=⟨g,2,none⟩) (Nat.lt_of_lt_of_le hg1 HB12.out.size)];exact hS.1,by rw [hbA.cell (p:=⟨g,3,none⟩) (Nat.lt_of_lt_of_le hg1 HB12.out.size)];exact hS.2⟩ (fun hS2=> ?_);clear hbA;clear hK K hS;have hS:=hS2;clear hS2;try simp only [aS,aN,aA,a0,a1]
    refine Org.gA fun K hK=> ?_
    have how:=Zzd4 H1.out.l.own.own (HB12.out.trans (HBA.out.mono HB12.out.size));rw [show ({ d with s:=d.s.step}:Dr).L.length=nl from HNL.out] at how;refine Zz0k (.tmp 46) (.tmp 49) 23 rfl 0 33 i1 (.slice none 0 0) 1 24 Tryz.underlying23 hi' hz0' hz1' hz2' rfl (by omega) (.slice Al nl cl) nl lvs rfl how _ _ 1 1 [.slice A2 64 cc2] rfl (Sl.fresh w2 [.slice A2 64 cc2] 33 (0,0) 1 rfl) (by simp [Value.oneCell']) (nl+1) rfl (lvs++ [.slice A2 64 cc2]) rfl (by omega) (by omega) (Nat.zero_le _) ?_;intro A3 c3x w3 o3 g3 wh;have hx2:OB w1.heap.size w2 (.slice A2 64 cc2) l:=by
     have:=HO2.out
     unfold OB;rw [HLN.out];exact this
    obtain ⟨hDA,hOA,hRA⟩:=H1.out.appended (lv':= .slice A3 (nl+1) c3x) HB12.out hx2 (.cells #[.slice A2 64 cc2] 33) (by rw [show ({ d with s:=d.s.step}:Dr).L.length=nl from HNL.out];exact o3) g3 (fun k hk=>by
     refine ⟨?_,(Zz2q o3 k hk).2⟩;rcases wh with h2 | h2
     ·exact .inl (by rw [← h2];exact hk)
     ·rw [h2] at hk
      injection hk with hk;exact .inr hk.symm)
    have HDA:=hid hDA;have HOA:=hid hOA;have HRA:=hid hRA;have k2:w3.cell? ⟨g,2,none⟩=some (.slice Al nl cl):=hRA.cell 2;have k3:w3.cell? ⟨g,3,none⟩=some (.int .i64 (d.wait:Int)):=hRA.cell 3;clear how;refine hK.out _ _ ⟨k2,k3⟩ (fun hS2=> ?_);clear hDA hOA hRA k2 k3 o3 g3 wh hx2;clear hK K hS;have hS:=hS2;clear hS2;try simp only [aS,aN,aA,a0,a1]
    (refine Org.fA (v:= ?_) (SM.of hS) ?_ ?_;rotate_left;(focus (intro w;refine Pure.val ?_;go_simp;(try with_reducible rfl);done));try simp only [aS,aN,aA,a0,a1]);(refine Org.yV (SM.of hS) ?_;try simp only [aS,aN,aA,a0,a1]);refine Org.mark (p:=17) rfl (by kernel_rfl) (by kernel_rfl) (by kernel_rfl) (by kernel_rfl) (fun K hK=> ?_);have k2:=hS.1;have f2:=HRA.out.frozen 2;go_simp;refine hK.out _ _ ?_;clear k2 f2;clear hK K hS;try simp only [aS,aN,aA,a0,a1]
    iterate 2 (refine Org.fA (v:= ?_) (SM.past (p:=17) (by kernel_rfl) (by kernel_rfl)) ?_ ?_;rotate_left;(focus (intro w;refine Pure.val ?_;go_simp;(try with_reducible rfl);done));try simp only [aS,aN,aA,a0,a1])
    refine Org.mark (p:=17) rfl (by kernel_rfl) (by kernel_rfl) (by kernel_rfl) (by kernel_rfl) (fun K hK=> ?_);have k3:(w3.setCell ⟨g,2,none⟩ (.slice A3 (nl+1) c3x)).cell? ⟨g,3,none⟩=some (.int .i64 (d.wait:Int)):=HDA.out.row.cell 3;have f3:=HDA.out.row.frozen 3;go_simp;refine hK.out _ _ ?_;clear k3 f3;clear hK K;try simp only [aS,aN,aA,a0,a1]
    refine Org.done (by kernel_rfl) ?_;have hF:=HDA.out.setWait nw;have hO:Only F w1 ((w3.setCell ⟨g,2,none⟩ (.slice A3 (nl+1) c3x)).setCell ⟨g,3,none⟩ (.int .i64 (nw:Int))):=(HOA.out.set HFG.out 2 _).set HFG.out 3 _;have hO2:=O1.out.trans hO (fun _ _ hk=>hk);have hz3:w3.heap.size≤((w3.setCell ⟨g,2,none⟩ (.slice A3 (nl+1) c3x)).setCell ⟨g,3,none⟩ (.int .i64 (nw:Int))).heap.size:=by simp [World.setCell]
    have HF:=hid hF;have HO2:=hid hO2;clear hF hO hO2 e55;generalize (w3.setCell ⟨g,2,none⟩ (.slice A3 (nl+1) c3x)).setCell ⟨g,3,none⟩ (.int .i64 (nw:Int))=w5 at*;cases hgo:d.s.goes with
    | false=>
     have hs:S=({ d with L:=d.L++ [l],wait:=d.wait+1,s:=d.s.step},14):=by rw [← HS.out];unfold Dr.append;rw [if_neg (by rw [HLN.out];simp),HLO.out,HNL.out,if_neg (by simp),if_neg (by omega),HOFF.out,if_neg (by simp),hgo,if_neg (by simp)]
     rw [HNW.out] at hs;subst hs;clear hgo;go_wp2_with fail;go_ret
     exact ⟨rfl,⟨_,_,_,_,HF.out.widen hz1 hz3 (fun k hk=>Nat.lt_of_lt_of_le (HF1.out k hk) (ZnT HOA.out.size hz3))⟩,HO2.out⟩
    | true=>
     have hs:S=({ d with L:=d.L++ [l],wait:=d.wait+1,s:=d.s.step}.went,0):=by rw [← HS.out];unfold Dr.append;rw [if_neg (by rw [HLN.out];simp),HLO.out,HNL.out,if_neg (by simp),if_neg (by omega),HOFF.out,if_neg (by simp),hgo,if_pos rfl]
     rw [HNW.out] at hs;subst hs;have k4:w5.cell? ⟨g,4,none⟩=some (.bool d.has):=HF.out.row.cell 4;have k5:w5.cell? ⟨g,5,none⟩=some bv:=HF.out.row.cell 5;have f4:=HF.out.row.frozen 4;have f5:=HF.out.row.frozen 5;have hG:=(HF.out.setHas false).noB;have hz5:w3.heap.size≤((w5.setCell ⟨g,4,none⟩ (.bool false)).setCell ⟨g,5,none⟩ (.slice none 0 0)).heap.size:=by simpa [World.setCell] using hz3
     have hO5:Only F w ((w5.setCell ⟨g,4,none⟩ (.bool false)).setCell ⟨g,5,none⟩ (.slice none 0 0)):=(HO2.out.set HFG.out 4 _).set HFG.out 5 _;have HG:=hid hG;have HO5:=hid hO5;clear hgo hG hO5;go_wp2_with fail;go_ret
     exact ⟨rfl,⟨_,_,_,_,HG.out.widen hz1 hz5 (fun k hk=>Nat.lt_of_lt_of_le (HF1.out k hk) (ZnT HOA.out.size hz5))⟩,HO5.out⟩
theorem RDrv.grow {F:Nat→Prop} {w w2:World} {g pg:Nat} {lv bv:Value} {lvs bvs:List Value} {d:Dr} (h:RDrv F w g pg lv lvs bv bvs d) (hb:Below w.heap.size w w2):RDrv (Ext F w w2) w2 g pg lv lvs bv bvs d:=
 (h.only (Only.of_new (F:=fun _=>False) hb) (fun _ _ hf=>hf)).more (fun k hk=> .inl hk) (fun k hk=>by
  rcases hk with hk | hk
  ·exact Nat.lt_of_lt_of_le (h.lt k hk) hb.size
  ·exact hk.2)
theorem RDrv.fresh {F:Nat→Prop} {w w2:World} {v:Value} {vs:List Value} {ls:List (List Byte)} (ho:OBs w.heap.size w2 v vs ls):Lst (Ext F w w2) w2 v vs ls:=Lst.of_own ho (fun k h1 h2=> .inr ⟨h1,h2⟩)
end Go.Proofs.YtnknjeipfjdjoaaGreatDoor
namespace Wells
open Go Go.RowKit
theorem Zz57 {P:Program} (w:World) (t ty:TypeId) (e:TypeId) (i:TypeInfo) (z:Value) (size bytes:Nat) (ht:P.underlying t=some (.slice e)) (hi:P.info? e=some i) (hz:i.zero=some z)
  (hsize:i.size=size) (hby:i.bytes=bytes) (hzs:z.cells.size=size) (hsz:0 < size)
  (Bo:Nat) (Ao:Option Addr) (n:Nat) (olds:List Value) (ho:Sl w Bo size Ao n olds)
  (B:Nat) (A:Option Addr) (m c:Nat) (news:List Value) (hr:Sl w B size A m news) (h1:∀ u∈news,u.oneCell'=true) (hm:0 < m)
  (h63:n+m≤9223372036854775807) (hbytes:(n+m)*bytes≤140737488355328):
  ∃ v' w',(Builtin.append_ #[t,t] ty #[.slice Ao n n,.slice A m c]).run P w= .ok v' w'∧w'.ownsRow w.heap.size e size v' (n+m) (olds++news)∧w.grownBy w' none:=by
 obtain ⟨b,o,rfl,_,hc⟩:=hr.at_ hm;have hc':∀ j u,news[j]? =some u→w.cell? ((⟨b,o,none⟩:Addr).add j)=some u:=fun j u hu=>by rw [Zz0m];exact hc j u hu
 cases Ao with
 | some ad=>
  have ho':∀ j u,olds[j]? =some u→w.cell? (ad.add j)=some u:=by
   intro j u hu;rcases Nat.eq_zero_or_pos n with h0 | h0
   ·subst h0
    have hn:olds= []:=List.eq_nil_of_length_eq_zero (by simpa using ho.len);subst hn;simp at hu
   ·obtain ⟨b2,o2,hh,_,hc2⟩:=ho.at_ h0
    injection hh with hh;subst hh;rw [Zz0m];exact hc2 j u hu
  exact run_append_arg_grows (P:=P) w t ty e i z size bytes ht hi hz hsize hby hzs hsz ad n n olds ho.len ho' ⟨b,o,none⟩ m c news hr.len hc' (by omega) (by unfold maxLen;omega) hbytes
 | none=>
  have h0:n=0:=by
   rcases Nat.eq_zero_or_pos n with h0 | h0
   ·exact h0
   ·obtain ⟨_,_,hh,_⟩:=ho.at_ h0
    cases hh
  subst h0;have hn:olds= []:=List.eq_nil_of_length_eq_zero (by simpa using ho.len);subst hn;obtain ⟨v',w',hrun,r1,r2,_⟩:=run_append_own (P:=P) w w.heap.size t ty e i z size bytes ht hi hz hsize hby hzs hsz (.slice none 0 0) 0 [] (World.ownsRow_nil w _ e size) ⟨b,o,none⟩ m c news hr.len hc' h1 (by unfold maxLen;omega) hbytes (ZnR _);exact ⟨v',w',hrun,r1,r2⟩
theorem Zz1k {P:Program} {w:World} {o:Oper} {a:Act} {K:Act→World→Prop} {Q:Exit→Act→World→Prop} (s x:Operand) (t:TypeId)
  (ho:o.op= .call { callee:= .builtin .append,args:= #[s,x],argTypes:= #[t,t]})
  (e:TypeId) (i:TypeInfo) (z:Value) (size bytes:Nat) (ht:P.underlying t=some (.slice e)) (hi:P.info? e=some i) (hz:i.zero=some z)
  (hsize:i.size=size) (hby:i.bytes=bytes) (hzs:z.cells.size=size) (hsz:0 < size)
  (Bo:Nat) (Ao:Option Addr) (n:Nat) (olds:List Value) (hs:a.eval s= .slice Ao n n) (hso:Sl w Bo size Ao n olds)
  (B:Nat) (A:Option Addr) (m c:Nat) (news:List Value) (hx:a.eval x= .slice A m c) (hr:Sl w B size A m news) (h1:∀ u∈news,u.oneCell'=true) (hm:0 < m)
  (N:Nat) (hN:n+m=N) (ys:List Value) (hys:olds++news=ys) (h63:N≤9223372036854775807) (hbytes:N*bytes≤140737488355328)
  (h:∀ A' c' w',w'.ownsRow w.heap.size e size (.slice A' N c') N ys→Below w.heap.size w w'→K (a.put o.dst (.slice A' N c')) w'):Oper.wp P o a w K Q:=by
 subst hN hys;obtain ⟨v',w',hrun,h2,h3⟩:=Zz57 (P:=P) w t o.type e i z size bytes ht hi hz hsize hby hzs hsz Bo Ao n olds hso B A m c news hr h1 hm h63 hbytes;obtain ⟨A',c',rfl,_⟩:=Zz0h h2;unfold Oper.wp execOp;simp only [ho,resolve,invoke,builtin,Sem.run_bind,Sem.run_pure,Result.andThen_ok,List.map_toArray,List.map_cons,List.map_nil,hs,hx,hrun];exact h A' c' w' h2 ⟨h3.os,h3.tape,h3.output,h3.size,fun k hk=>h3.block k hk (by simp)⟩
end Wells
namespace Go.Proofs.YtnknjeipfjdjoaaGreatDoor
open Go.RowKit Wells
structure ST (w wx:World) (g0 gm:Nat) (sq nx:Int) (P:Par) (ex:Int) (Ad:Option Addr) (nd cd:Nat) (ds:List Int) (Ao:Option Addr) (no co:Nat) (ts:List Value) (es:List Ent):Prop where
 q:Row wx g0 28 [.int .i64 0,.int .i64 0,.int .i64 0,.int .i64 0,.int .i64 0,.int .i64 0,.slice none 0 0,.slice none 0 0]
 x:Row wx gm 28 [.int .i64 sq,.int .i64 nx,.int .i64 P.K,.int .i64 P.H,.int .i64 P.S,.int .i64 ex,.slice Ad nd cd,.slice Ao no co]
 d:wx.ownsRow w.heap.size 3 1 (.slice Ad nd cd) nd (ds.map iv)
 o:OEs w.heap.size wx (.slice Ao no co) ts es
 ol:es.length=no
 be:Below w.heap.size w wx
section
variable {w wx wy:World} {g0 gm:Nat} {sq nx:Int} {P:Par} {ex:Int} {Ad:Option Addr} {nd cd:Nat} {ds:List Int} {Ao:Option Addr} {no co:Nat} {ts:List Value} {es:List Ent}
theorem ST.below (h:ST w wx g0 gm sq nx P ex Ad nd cd ds Ao no co ts es) (hb:Below wx.heap.size wx wy):ST w wy g0 gm sq nx P ex Ad nd cd ds Ao no co ts es:=
 ⟨h.q.below hb h.q.lt,h.x.below hb h.x.lt,h.d.kept (Zz02 hb none) (by cases (Value.slice Ad nd cd).ownBlock <;> simp),h.o.below hb,h.ol,h.be.trans (hb.mono h.be.size)⟩
theorem ST.alloc (h:ST w wx g0 gm sq nx P ex Ad nd cd ds Ao no co ts es) (o:Obj):ST w (wx.alloc o) g0 gm sq nx P ex Ad nd cd ds Ao no co ts es:=h.below ((Below.refl _ _).alloc (ZnR _) o)
theorem ST.drewN (h:ST w wx g0 gm sq nx P ex Ad nd cd ds Ao no co ts es) (n:Nat):ST w (wx.drewN n) g0 gm sq nx P ex Ad nd cd ds Ao no co ts es:=h.below (Zz01 (Below.refl _ _) n)
theorem ST.drew_ (h:ST w wx g0 gm sq nx P ex Ad nd cd ds Ao no co ts es):ST w wx.drew g0 gm sq nx P ex Ad nd cd ds Ao no co ts es:=h.drewN 1
end
theorem Zzcj {w0 w:World} (hb:Below w0.heap.size w0 w) (N:Nat) (hN:w.heap.size=N) (cs:List Value) (t:TypeId) (size n:Nat) (hl:cs.length=n*size) (hn:n≤maxLen):(w.alloc (.cells cs.toArray t)).ownsRow w0.heap.size t size (.slice (some ⟨N,0,none⟩) n n) n cs:=by
 subst hN;exact ⟨hl,.inr ⟨w.heap.size,n,cs.toArray,rfl,hb.size,heap_alloc_new w _,ZnR _,hn,by simpa using hl,by rw [← hl];simp⟩⟩
theorem Zzdq {x:Int} (h: -9223372036854775808≤x∧x≤9223372036854775807): -9223372036854775808≤x.tdiv 26∧x.tdiv 26≤9223372036854775807:=by
 have e:=Int.tdiv_eq_ediv (a:=x) (b:=26);have e1:Int.sign 26=1:=rfl;rw [e1] at e;rw [e];split <;> omega
theorem Zze8 {x:Int} (h: -9223372036854775808≤x∧x≤9223372036854775807): -9223372036854775808≤x.tdiv 78∧x.tdiv 78≤9223372036854775807:=by
 have e:=Int.tdiv_eq_ediv (a:=x) (b:=78);have e1:Int.sign 78=1:=rfl;rw [e1] at e;rw [e];split <;> omega
theorem Zzhz {x:Int} (h: -9223372036854775808≤x∧x≤9223372036854775807) (k:Nat): -9223372036854775808≤x / 2 ^ k∧x / 2 ^ k≤9223372036854775807:=by
 have hd:(0:Int) < 2 ^ k:=Int.pow_pos (by omega);obtain ⟨d,hdd⟩:∃ d:Int,2 ^ k=d:=⟨_,rfl⟩;rw [hdd] at hd ⊢;by_cases hx:0≤x
 ·have h1:=Int.ediv_nonneg hx (show (0:Int)≤d by omega)
  have h2:=Int.ediv_le_self d hx;omega
 ·have h1:x≤x / d:=(Int.le_ediv_iff_mul_le hd).2 (by
   have:=Int.mul_le_mul_of_nonpos_left (show (x:Int)≤0 by omega) (show (1:Int)≤d by omega)
   rw [Int.mul_one] at this;exact this)
  have h2:=Int.ediv_neg_of_neg_of_pos (show x < 0 by omega) hd;omega
theorem _root_.Wells.Row.ownx {w w1:World} {base g size n:Nat} {t e:TypeId} {cs xs:List Value} {v:Value} (h:Row w g t cs) (hv:w.ownsRow base e size v n xs) (hg:w.grownBy w1 v.ownBlock) (hne:e≠t):Row w1 g t cs:=by
 refine h.grown hg ?_;rcases Zz2i hv h hne with e1 | e1
 ·rw [e1];intro e2;cases e2
 ·exact fun e2=>e1 e2.symm
theorem Zz0u (w:World) (g j:Nat) (u:Value):w.grownBy (w.setCell ⟨g,j,none⟩ u) (some g):=Zz06 (World.grownBy.refl w _) (.inl rfl) j u
theorem ST.setD {w wx wy:World} {g0 gm:Nat} {sq nx:Int} {P:Par} {ex:Int} {Ad Ad':Option Addr} {nd cd nd' cd':Nat} {ds ds':List Int} {Ao:Option Addr} {no co:Nat} {ts:List Value} {es:List Ent}
  (h:ST w wx g0 gm sq nx P ex Ad nd cd ds Ao no co ts es) (he:OEs w.heap.size wy (.slice Ao no co) ts es) (hg:wx.grownBy wy (Value.slice Ad nd cd).ownBlock) (ho:wy.ownsRow w.heap.size 3 1 (.slice Ad' nd' cd') nd' (ds'.map iv)) (hne:gm≠g0) (hgm:w.heap.size≤gm):
  ST w (wy.setCell ⟨gm,6,none⟩ (.slice Ad' nd' cd')) g0 gm sq nx P ex Ad' nd' cd' ds' Ao no co ts es:=by
 have hx:=h.x.ownx h.d hg (by decide);have hq:=h.q.ownx h.d hg (by decide);exact ⟨hq.far (p:=⟨gm,6,none⟩) hne.symm _,hx.set 6 _,ho.far_ hx (by decide) 6 _,he.other (Zz0u _ _ _ _) hx (by decide) (by decide),h.ol,(Zz04 h.be h.d hg (ZnR _) h.be.size).setCell (p:=(⟨gm,6,none⟩:Addr)) hgm _⟩
theorem Sl.fresh4m (w:World) (cs:List Value) (t:TypeId) (hm:cs.length=4):Sl (w.alloc (.cells cs.toArray t (0,0))) (w.heap.size+1) 4 (some ⟨w.heap.size,0,none⟩) 1 cs:=
 ⟨by omega,fun _=>⟨_,0,rfl,by omega,fun j u hu=>by
  rw [Nat.zero_add,cell_of_row _ _ j cs.toArray t (0,0) (heap_alloc_new w _)];simpa using hu⟩⟩
theorem ST.pushO {w wx wy:World} {B2 g0 gm:Nat} {sq nx:Int} {P:Par} {ex:Int} {Ad:Option Addr} {nd cd:Nat} {ds:List Int} {Ao A8:Option Addr} {no co c8:Nat} {ts:List Value} {es:List Ent} {cs:Array Value} {t:TypeId}
  {nm:List Byte} {ob ln:Int} {trs:List Int} {At:Option Addr} {j ct:Nat}
  (h:ST w wx g0 gm sq nx P ex Ad nd cd ds Ao no co ts es) (hot:wx.ownsRow B2 3 1 (.slice At j ct) j (trs.map iv)) (hB:w.heap.size≤B2)
  (o8:wy.ownsRow w.heap.size 61 4 (.slice A8 (no+1) c8) (no+1) (entsC es ts++ [.string (strB nm),.int .i64 ob,.int .i64 ln,.slice At j ct])) (g8:(wx.alloc (.cells cs t)).grownBy wy (Value.slice Ao no co).ownBlock):
  Row wy gm 28 [.int .i64 sq,.int .i64 nx,.int .i64 P.K,.int .i64 P.H,.int .i64 P.S,.int .i64 ex,.slice Ad nd cd,.slice Ao no co]∧
  (gm≠g0→w.heap.size≤gm→ST w (wy.setCell ⟨gm,7,none⟩ (.slice A8 (no+1) c8)) g0 gm sq nx P ex Ad nd cd ds A8 (no+1) c8 (ts++ [.slice At j ct]) (es++ [⟨nm,ob,ln,trs⟩])):=by
 have ha:=h.alloc (.cells cs t);have how:=ha.o.own;rw [h.ol] at how;have hx:=ha.x.ownx how g8 (by decide);refine ⟨hx,fun hne hgm=> ?_⟩;have hq:=ha.q.ownx how g8 (by decide);have hd:=ha.d.kept g8 (Zz0i ha.d how (by decide));have hta:=(hot.alloc (.cells cs t));have htl:trs.length=j:=by have:=hot.1;simpa using this
 subst htl;have hp:=ha.o.push (x:=⟨nm,ob,ln,trs⟩) (tv:= .slice At trs.length ct) rfl (Zz0b hta hB) (by rw [h.ol];exact o8) g8;exact ⟨hq.far (p:=⟨gm,7,none⟩) hne.symm _,hx.set 7 _,hd.far_ hx (by decide) 7 _,hp.other (Zz0u _ _ _ _) hx (by decide) (by decide),by rw [List.length_append,h.ol];rfl,(Zz04 ha.be how g8 (ZnR _) ha.be.size).setCell (p:=(⟨gm,7,none⟩:Addr)) hgm _⟩
theorem ST.setN {w wx:World} {g0 gm:Nat} {sq nx nx':Int} {P:Par} {ex:Int} {Ad:Option Addr} {nd cd:Nat} {ds:List Int} {Ao:Option Addr} {no co:Nat} {ts:List Value} {es:List Ent}
  (h:ST w wx g0 gm sq nx P ex Ad nd cd ds Ao no co ts es) (hne:gm≠g0) (hgm:w.heap.size≤gm):
  ST w (wx.setCell ⟨gm,1,none⟩ (.int .i64 nx')) g0 gm sq nx' P ex Ad nd cd ds Ao no co ts es:=
 ⟨h.q.far (p:=⟨gm,1,none⟩) hne.symm _,h.x.set 1 _,h.d.far_ h.x (by decide) 1 _,h.o.other (Zz0u _ _ _ _) h.x (by decide) (by decide),h.ol,h.be.setCell (p:=(⟨gm,1,none⟩:Addr)) hgm _⟩
theorem ST.setR {w wx:World} {g0 gm:Nat} {sq nx:Int} {P:Par} {ex:Int} {Ad Ad':Option Addr} {nd cd nd' cd':Nat} {ds ds':List Int} {Ao:Option Addr} {no co:Nat} {ts:List Value} {es:List Ent}
  (h:ST w wx g0 gm sq nx P ex Ad nd cd ds Ao no co ts es) (ho:wx.ownsRow w.heap.size 3 1 (.slice Ad' nd' cd') nd' (ds'.map iv)) (hne:gm≠g0) (hgm:w.heap.size≤gm):
  ST w (wx.setCell ⟨gm,6,none⟩ (.slice Ad' nd' cd')) g0 gm sq nx P ex Ad' nd' cd' ds' Ao no co ts es:=
 ⟨h.q.far (p:=⟨gm,6,none⟩) hne.symm _,h.x.set 6 _,ho.far_ h.x (by decide) 6 _,h.o.other (Zz0u _ _ _ _) h.x (by decide) (by decide),h.ol,h.be.setCell (p:=(⟨gm,6,none⟩:Addr)) hgm _⟩
theorem _root_.Wells.Row.ne_ {w:World} {g g':Nat} {t t':TypeId} {cs cs':List Value} (h:Row w g t cs) (h':Row w g' t' cs') (hne:t≠t'):g≠g':=by
 rintro rfl;unfold Row at h h';rw [h] at h';injection h' with h';injection h' with _ e _;exact hne e
structure SR (w wx:World) (B g0 gm gr:Nat) (sq nx:Int) (P:Par) (ex:Int) (Ad:Option Addr) (nd cd:Nat) (ds:List Int) (Ao:Option Addr) (no co:Nat) (ts:List Value) (es:List Ent) (st:RSt):Prop where
 s:ST w wx g0 gm sq nx P ex Ad nd cd ds Ao no co ts es
 r:Rd 139 B wx gr st
 b:B≤w.heap.size
 gr_:w.heap.size≤gr
 gm_:w.heap.size≤gm
 g0_:w.heap.size≤g0
 ne:gm≠g0
structure SRlt (N g0 gm gr:Nat) (dv ov:Value) (ts:List Value) (n:Nat):Prop where
 a:g0 < N
 b:gm < N
 c:gr < N
 d:∀ b,dv.ownBlock=some b→b < N
 o:∀ b,ov.ownBlock=some b→b < N
 t:∀ i,i < n→∀ b,(ts.getD i undef).ownBlock=some b→b < N
section
variable {w wx wy:World} {B g0 gm gr:Nat} {sq nx:Int} {P:Par} {ex:Int} {Ad:Option Addr} {nd cd:Nat} {ds:List Int} {Ao:Option Addr} {no co:Nat} {ts:List Value} {es:List Ent} {st st':RSt}
theorem SR.num (h:SR w wx B g0 gm gr sq nx P ex Ad nd cd ds Ao no co ts es st) (hr:Rd 139 B wy gr st') (hg:wx.grownBy wy (some gr)):SR w wy B g0 gm gr sq nx P ex Ad nd cd ds Ao no co ts es st':=by
 obtain ⟨_,_,_,h1,_⟩:=h.r;refine ⟨⟨h.s.q.grown hg (fun e=> ?_),h.s.x.grown hg (fun e=> ?_),h.s.d.kept hg (Zz38 h.s.d h.r),h.s.o.other hg h1 (by decide) (by decide),h.s.ol,h.s.be.grown hg h.s.be.size (fun k hk=>by injection hk with hk;have:=h.gr_;omega)⟩,hr,h.b,h.gr_,h.gm_,h.g0_,h.ne⟩
 ·injection e with e
  exact h.s.q.ne_ h1 (by decide) e
 ·injection e with e
  exact h.s.x.ne_ h1 (by decide) e
theorem SR.below (h:SR w wx B g0 gm gr sq nx P ex Ad nd cd ds Ao no co ts es st) (hb:Below wx.heap.size wx wy):SR w wy B g0 gm gr sq nx P ex Ad nd cd ds Ao no co ts es st:=
 ⟨h.s.below hb,h.r.keep hb (ZnT h.b h.s.be.size),h.b,h.gr_,h.gm_,h.g0_,h.ne⟩
theorem SR.gmr (h:SR w wx B g0 gm gr sq nx P ex Ad nd cd ds Ao no co ts es st):gm≠gr:=by
 obtain ⟨_,_,_,h1,_⟩:=h.r;exact h.s.x.ne_ h1 (by decide)
theorem SR.setI {sq' nx':Int} {P':Par} {ex':Int} (h:SR w wx B g0 gm gr sq nx P ex Ad nd cd ds Ao no co ts es st) (i:Nat) (u:Value)
  (e:([.int .i64 sq,.int .i64 nx,.int .i64 P.K,.int .i64 P.H,.int .i64 P.S,.int .i64 ex,.slice Ad nd cd,.slice Ao no co]:List Value).set i u= [.int .i64 sq',.int .i64 nx',.int .i64 P'.K,.int .i64 P'.H,.int .i64 P'.S,.int .i64 ex',.slice Ad nd cd,.slice Ao no co]):
  SR w (wx.setCell ⟨gm,i,none⟩ u) B g0 gm gr sq' nx' P' ex' Ad nd cd ds Ao no co ts es st:=by
 have hx:=h.s.x.set i u;rw [e] at hx;exact ⟨⟨h.s.q.far (p:=⟨gm,i,none⟩) h.ne.symm _,hx,h.s.d.far_ h.s.x (by decide) i _,h.s.o.other (Zz0u _ _ _ _) h.s.x (by decide) (by decide),h.s.ol,h.s.be.setCell (p:=(⟨gm,i,none⟩:Addr)) h.gm_ _⟩,h.r.put_ h.gmr (ZnT h.b h.gm_) i u,h.b,h.gr_,h.gm_,h.g0_,h.ne⟩
theorem SR.lt (h:SR w wx B g0 gm gr sq nx P ex Ad nd cd ds Ao no co ts es st):SRlt wx.heap.size g0 gm gr (.slice Ad nd cd) (.slice Ao no co) ts no:=
 ⟨h.s.q.lt,h.s.x.lt,h.r.lt.1,fun b hb=>(h.s.d.lt b hb).2,fun b hb=>(h.s.o.own.lt b hb).2,fun i hi b hb=>by
  obtain ⟨A',c',e,ho⟩:=h.s.o.at_ i (by rw [h.s.ol];exact hi);rw [e] at hb;exact (ho.lt b hb).2⟩
theorem Zzaq {base size n N:Nat} {e:TypeId} {v:Value} {xs:List Value} {r:Option Nat} (h:wx.ownsRow base e size v n xs) (hv:∀ b,v.ownBlock=some b→b < N) (hg:wx.grownBy wy r) (hr:∀ b,r=some b→N≤b):wy.ownsRow base e size v n xs:=by
 refine h.kept hg ?_;cases hvb:v.ownBlock with
 | none=>exact .inl rfl
 | some b=>
  refine .inr fun e2=> ?_
  have h1:=hv b hvb;have h2:=hr b e2.symm;omega
theorem Zzh9 {g N:Nat} {t:TypeId} {cs:List Value} {r:Option Nat} (h:Row wx g t cs) (hv:g < N) (hg:wx.grownBy wy r) (hr:∀ b,r=some b→N≤b):Row wy g t cs:=
 h.grown hg (fun e=>by have:=hr g e.symm;omega)
theorem SR.up {N:Nat} {r:Option Nat} (h:SR w wx B g0 gm gr sq nx P ex Ad nd cd ds Ao no co ts es st) (hl:SRlt N g0 gm gr (.slice Ad nd cd) (.slice Ao no co) ts no) (hN:w.heap.size≤N) (hg:wx.grownBy wy r) (hr:∀ b,r=some b→N≤b):SR w wy B g0 gm gr sq nx P ex Ad nd cd ds Ao no co ts es st:=by
 refine ⟨⟨Zzh9 h.s.q hl.a hg hr,Zzh9 h.s.x hl.b hg hr,Zzaq h.s.d hl.d hg hr,⟨Zzaq h.s.o.own hl.o hg hr,h.s.o.tl,fun i hi=> ?_⟩,h.s.ol,h.s.be.grown hg h.s.be.size (fun k hk=>by have:=hr k hk;omega)⟩,?_,h.b,h.gr_,h.gm_,h.g0_,h.ne⟩
 ·obtain ⟨A',c',e,ho⟩:=h.s.o.at_ i hi
  exact ⟨A',c',e,Zzaq ho (fun b hb=>hl.t i (by rw [← h.s.ol];exact hi) b (by rw [e];exact hb)) hg hr⟩
 ·obtain ⟨A,n,c,h1,h2,h3,h4,h5,h6⟩:=h.r
  exact ⟨A,n,c,Zzh9 h1 hl.c hg hr,h2.below ((Below.refl B wx).grown hg (ZnT h.b h.s.be.size) (fun k hk=>by have:=hr k hk;have:=h.b;omega)),h3,h4,h5,h6⟩
end
structure SE (N:Nat) (w wx:World) (B g0 gm gr:Nat) (sq nx:Int) (P:Par) (ex:Int) (Ad:Option Addr) (nd cd:Nat) (ds:List Int) (Ao:Option Addr) (no co:Nat) (ts:List Value) (es:List Ent) (st:RSt) (ge:Nat) (nm:List Byte) (ob ln:Int) (At:Option Addr) (nt ct:Nat) (trs:List Int):Prop where
 s:SR w wx B g0 gm gr sq nx P ex Ad nd cd ds Ao no co ts es st
 re:Row wx ge 61 [.string (strB nm),.int .i64 ob,.int .i64 ln,.slice At nt ct]
 ot:wx.ownsRow N 3 1 (.slice At nt ct) nt (trs.map iv)
 tl:trs.length=nt
 hi:SRlt N g0 gm gr (.slice Ad nd cd) (.slice Ao no co) ts no
 N_:w.heap.size≤N
 Nx:N≤wx.heap.size
 ge_:N≤ge
section
variable {N:Nat} {w wx wy:World} {B g0 gm gr:Nat} {sq nx:Int} {P:Par} {ex:Int} {Ad:Option Addr} {nd cd:Nat} {ds:List Int} {Ao:Option Addr} {no co:Nat} {ts:List Value} {es:List Ent} {st st':RSt} {ge:Nat} {nm nm':List Byte} {ob ob' ln ln':Int} {At At':Option Addr} {nt ct nt' ct':Nat} {trs trs':List Int}
theorem SE.num (h:SE N w wx B g0 gm gr sq nx P ex Ad nd cd ds Ao no co ts es st ge nm ob ln At nt ct trs) (hr:Rd 139 B wy gr st') (hg:wx.grownBy wy (some gr)):SE N w wy B g0 gm gr sq nx P ex Ad nd cd ds Ao no co ts es st' ge nm ob ln At nt ct trs:=by
 obtain ⟨_,_,_,h1,_⟩:=h.s.r;exact ⟨h.s.num hr hg,h.re.grown hg (fun e=>by injection e with e;exact h.re.ne_ h1 (by decide) e),h.ot.kept hg (Zz38 h.ot h.s.r),h.tl,h.hi,h.N_,ZnT h.Nx hg.size,h.ge_⟩
theorem SE.below (h:SE N w wx B g0 gm gr sq nx P ex Ad nd cd ds Ao no co ts es st ge nm ob ln At nt ct trs) (hb:Below wx.heap.size wx wy):SE N w wy B g0 gm gr sq nx P ex Ad nd cd ds Ao no co ts es st ge nm ob ln At nt ct trs:=
 ⟨h.s.below hb,h.re.below hb h.re.lt,h.ot.kept (Zz02 hb none) (by cases (Value.slice At nt ct).ownBlock <;> simp),h.tl,h.hi,h.N_,ZnT h.Nx hb.size,h.ge_⟩
theorem SE.setE (h:SE N w wx B g0 gm gr sq nx P ex Ad nd cd ds Ao no co ts es st ge nm ob ln At nt ct trs) (i:Nat) (u:Value) (e:([.string (strB nm),.int .i64 ob,.int .i64 ln,.slice At nt ct]:List Value).set i u= [.string (strB nm'),.int .i64 ob',.int .i64 ln',.slice At nt ct]):
  SE N w (wx.setCell ⟨ge,i,none⟩ u) B g0 gm gr sq nx P ex Ad nd cd ds Ao no co ts es st ge nm' ob' ln' At nt ct trs:=by
 have hx:=h.re.set i u;rw [e] at hx;exact ⟨h.s.up h.hi h.N_ (Zz0u wx ge i u) (fun b hb=>by injection hb with hb;have:=h.ge_;omega),hx,h.ot.far_ h.re (by decide) i u,h.tl,h.hi,h.N_,by have:=h.Nx;simpa [World.setCell] using this,h.ge_⟩
theorem SE.push (h:SE N w wx B g0 gm gr sq nx P ex Ad nd cd ds Ao no co ts es st ge nm ob ln At nt ct trs) (hg:wx.grownBy wy (Value.slice At nt ct).ownBlock) (ho:wy.ownsRow N 3 1 (.slice At' nt' ct') nt' (trs'.map iv)):
  Row wy ge 61 [.string (strB nm),.int .i64 ob,.int .i64 ln,.slice At nt ct]∧SE N w (wy.setCell ⟨ge,3,none⟩ (.slice At' nt' ct')) B g0 gm gr sq nx P ex Ad nd cd ds Ao no co ts es st ge nm ob ln At' nt' ct' trs':=by
 have hre:=h.re.ownx h.ot hg (by decide);refine ⟨hre,?_⟩;have hs:=h.s.up h.hi h.N_ hg (fun b hb=>(h.ot.lt b hb).1);exact ⟨hs.up h.hi h.N_ (Zz0u wy ge 3 _) (fun b hb=>by injection hb with hb;have:=h.ge_;omega),hre.set 3 _,ho.far_ hre (by decide) 3 _,by have:=ho.1;simpa using this,h.hi,h.N_,by have:=h.Nx;have:=hg.size;simp [World.setCell];omega,h.ge_⟩
end
theorem Rd.bad_ {t:TypeId} {B g:Nat} {w:World} {st:RSt} (h:Rd t B w g st):w.cell? ⟨g,1,none⟩=some (.bool st.2):=by
 obtain ⟨A,n,c,h1,_⟩:=h;exact h1.cell 1
section
variable {w wx wy:World} {B g0 gm gr:Nat} {sq nx:Int} {P:Par} {ex:Int} {Ad:Option Addr} {nd cd:Nat} {ds:List Int} {Ao:Option Addr} {no co:Nat} {ts:List Value} {es:List Ent} {st st':RSt}
theorem SR.drew_ (h:SR w wx B g0 gm gr sq nx P ex Ad nd cd ds Ao no co ts es st):SR w wx.drew B g0 gm gr sq nx P ex Ad nd cd ds Ao no co ts es st:=h.below (Zz01 (Below.refl _ _) 1)
theorem SR.alloc (h:SR w wx B g0 gm gr sq nx P ex Ad nd cd ds Ao no co ts es st) (o:Obj):SR w (wx.alloc o) B g0 gm gr sq nx P ex Ad nd cd ds Ao no co ts es st:=h.below ((Below.refl _ _).alloc (ZnR _) o)
theorem SR.pushD {Ad':Option Addr} {nd' cd':Nat} {ds':List Int} (h:SR w wx B g0 gm gr sq nx P ex Ad nd cd ds none 0 0 [] [] st) (hg:wx.grownBy wy (Value.slice Ad nd cd).ownBlock) (ho:wy.ownsRow w.heap.size 3 1 (.slice Ad' nd' cd') nd' (ds'.map iv)):
  Row wy gm 28 [.int .i64 sq,.int .i64 nx,.int .i64 P.K,.int .i64 P.H,.int .i64 P.S,.int .i64 ex,.slice Ad nd cd,.slice none 0 0]∧SR w (wy.setCell ⟨gm,6,none⟩ (.slice Ad' nd' cd')) B g0 gm gr sq nx P ex Ad' nd' cd' ds' none 0 0 [] [] st:=
 ⟨h.s.x.ownx h.s.d hg (by decide),⟨h.s.setD (OEs.nil_ _ _) hg ho h.ne h.gm_,(h.r.appd h.s.d hg (by decide) h.b).put_ h.gmr (ZnT h.b h.gm_) 6 _,h.b,h.gr_,h.gm_,h.g0_,h.ne⟩⟩
theorem SR.pushO {A8:Option Addr} {c8 B2:Nat} {cs:Array Value} {t:TypeId} {nm:List Byte} {ob ln:Int} {trs:List Int} {At:Option Addr} {j ct:Nat}
  (h:SR w wx B g0 gm gr sq nx P ex Ad nd cd ds Ao no co ts es st) (hot:wx.ownsRow B2 3 1 (.slice At j ct) j (trs.map iv)) (hB:w.heap.size≤B2)
  (o8:wy.ownsRow w.heap.size 61 4 (.slice A8 (no+1) c8) (no+1) (entsC es ts++ [.string (strB nm),.int .i64 ob,.int .i64 ln,.slice At j ct])) (g8:(wx.alloc (.cells cs t)).grownBy wy (Value.slice Ao no co).ownBlock):
  Row wy gm 28 [.int .i64 sq,.int .i64 nx,.int .i64 P.K,.int .i64 P.H,.int .i64 P.S,.int .i64 ex,.slice Ad nd cd,.slice Ao no co]∧SR w (wy.setCell ⟨gm,7,none⟩ (.slice A8 (no+1) c8)) B g0 gm gr sq nx P ex Ad nd cd ds A8 (no+1) c8 (ts++ [.slice At j ct]) (es++ [⟨nm,ob,ln,trs⟩]) st:=by
 have h1:=h.s.pushO (nm:=nm) (ob:=ob) (ln:=ln) (trs:=trs) hot hB o8 g8;have how:=(h.alloc (.cells cs t)).s.o.own;rw [h.s.ol] at how;exact ⟨h1.1,⟨h1.2 h.ne h.gm_,((h.alloc (.cells cs t)).r.appd how g8 (by decide) h.b).put_ h.gmr (ZnT h.b h.gm_) 7 _,h.b,h.gr_,h.gm_,h.g0_,h.ne⟩⟩
theorem SR.begin (h:SR w wx B g0 gm gr sq nx P ex Ad nd cd ds Ao no co ts es st):SE wx.heap.size w (wx.alloc (.cells #[.string ⟨#[]⟩,.int .i64 0,.int .i64 0,.slice none 0 0] 61)) B g0 gm gr sq nx P ex Ad nd cd ds Ao no co ts es st wx.heap.size [] 0 0 none 0 0 []:=
 ⟨h.alloc _,Row.new wx 61 _,World.ownsRow_nil _ _ _ _,rfl,h.lt,h.s.be.size,by simp,ZnR _⟩
end
section
variable {N:Nat} {w wx wy:World} {B g0 gm gr:Nat} {sq nx:Int} {P:Par} {ex:Int} {Ad:Option Addr} {nd cd:Nat} {ds:List Int} {Ao:Option Addr} {no co:Nat} {ts:List Value} {es:List Ent} {st st':RSt} {ge:Nat} {nm nm':List Byte} {ob ob' ln ln':Int} {At At':Option Addr} {nt ct nt' ct':Nat} {trs trs':List Int}
theorem SE.drew_ (h:SE N w wx B g0 gm gr sq nx P ex Ad nd cd ds Ao no co ts es st ge nm ob ln At nt ct trs):SE N w wx.drew B g0 gm gr sq nx P ex Ad nd cd ds Ao no co ts es st ge nm ob ln At nt ct trs:=h.below (Zz01 (Below.refl _ _) 1)
theorem SE.alloc (h:SE N w wx B g0 gm gr sq nx P ex Ad nd cd ds Ao no co ts es st ge nm ob ln At nt ct trs) (o:Obj):SE N w (wx.alloc o) B g0 gm gr sq nx P ex Ad nd cd ds Ao no co ts es st ge nm ob ln At nt ct trs:=h.below ((Below.refl _ _).alloc (ZnR _) o)
end
end Go.Proofs.YtnknjeipfjdjoaaGreatDoor
namespace Wells
open Go Go.RowKit
def Apart (v v':Value):Prop:=v.ownBlock=none∨v.ownBlock≠v'.ownBlock
theorem Apart.symm {v v':Value} (h:Apart v v'):Apart v' v:=by
 unfold Apart at*;cases hv:v'.ownBlock with
 | none=>exact .inl rfl
 | some b=>
  right
  rcases h with h | h
  ·rw [h];simp
  ·rw [hv] at h;exact fun e=>h e.symm
theorem Apart.of_lt {v v':Value} {N:Nat} (h:∀ b,v.ownBlock=some b→b < N) (h':v'.ownBlock=none∨∃ b,v'.ownBlock=some b∧N≤b):Apart v v':=by
 unfold Apart;cases hv:v.ownBlock with
 | none=>exact .inl rfl
 | some b=>
  right
  have h1:=h b hv;rcases h' with h2 | ⟨b',h2,h3⟩
  ·rw [h2];simp
  ·rw [h2];intro e;injection e with e;omega
structure Dj (ts:List Value) (dv:Value) (n:Nat):Prop where
 d:∀ i,i < n→Apart (ts.getD i undef) dv
 t:∀ i j,j < n→i < j→Apart (ts.getD i undef) (ts.getD j undef)
theorem Dj.nil_ (dv:Value):Dj [] dv 0:=⟨fun i hi=>absurd hi (by omega),fun i j hj=>absurd hj (by omega)⟩
theorem Zz5a {ts:List Value} {tv:Value} {n i:Nat} (hl:ts.length=n):(ts++ [tv]).getD i undef=if i < n then ts.getD i undef else if i=n then tv else undef:=by
 subst hl;simp only [ZgD,List.getElem?_append];split
 ·rfl
 ·split
  ·rename_i h;subst h;simp
  ·rw [List.getElem?_eq_none (by simp;omega)];rfl
theorem Dj.push {ts:List Value} {dv tv:Value} {n N:Nat} (h:Dj ts dv n) (hl:ts.length=n) (hlt:∀ i,i < n→∀ b,(ts.getD i undef).ownBlock=some b→b < N) (hd:∀ b,dv.ownBlock=some b→b < N) (ht:tv.ownBlock=none∨∃ b,tv.ownBlock=some b∧N≤b):Dj (ts++ [tv]) dv (n+1):=by
 refine ⟨fun i hi=> ?_,fun i j hj hij=> ?_⟩
 ·rw [Zz5a hl]
  by_cases h1:i < n
  ·rw [if_pos h1];exact h.d i h1
  ·rw [if_neg h1,if_pos (by omega)]
   exact (Apart.of_lt hd ht).symm
 ·rw [Zz5a hl,Zz5a hl,if_pos (by omega)]
  by_cases h1:j < n
  ·rw [if_pos h1];exact h.t i j h1 hij
  ·rw [if_neg h1,if_pos (by omega)]
   exact Apart.of_lt (hlt i (by omega)) ht
theorem Zz3o {ts:List Value} {tv:Value} {k i:Nat} (hk:k < ts.length):(ts.set k tv).getD i undef=if i=k then tv else ts.getD i undef:=by
 simp only [ZgD];split
 ·rename_i h;subst h;simp [hk]
 ·rename_i h;rw [List.getElem?_set_ne (fun e=>h e.symm)]
theorem Zzew {es:List Ent} {e:Ent} {k i:Nat} (hk:k < es.length):(es.set k e).getD i default=if i=k then e else es.getD i default:=by
 simp only [ZgD];split
 ·rename_i h;subst h;simp [hk]
 ·rename_i h;rw [List.getElem?_set_ne (fun e=>h e.symm)]
theorem Dj.swap {ts:List Value} {dv tv:Value} {n k N:Nat} (h:Dj ts dv n) (hl:ts.length=n) (hk:k < n) (hlt:∀ i,i < n→∀ b,(ts.getD i undef).ownBlock=some b→b < N) (hd:∀ b,dv.ownBlock=some b→b < N)
  (ht:tv.ownBlock=(ts.getD k undef).ownBlock∨tv.ownBlock=none∨∃ b,tv.ownBlock=some b∧N≤b):Dj (ts.set k tv) dv n:=by
 have key:∀ v,(∀ b,v.ownBlock=some b→b < N)→Apart v (ts.getD k undef)→Apart v tv:=fun v hv ha=>by
  rcases ht with h1 | h1
  ·unfold Apart at*;rw [h1];exact ha
  ·exact Apart.of_lt hv h1
 refine ⟨fun i hi=> ?_,fun i j hj hij=> ?_⟩
 ·rw [Zz3o (by omega)]
  split
  ·exact (key dv hd (h.d k hk).symm).symm
  ·exact h.d i hi
 ·rw [Zz3o (by omega),Zz3o (by omega)]
  by_cases h1:i=k
  ·rw [if_pos h1,if_neg (by omega)]
   exact (key _ (hlt j hj) (by subst h1;exact (h.t i j hj hij).symm)).symm
  ·rw [if_neg h1]
   by_cases h2:j=k
   ·rw [if_pos h2]
    exact key _ (hlt i (by omega)) (by subst h2;exact h.t i j hj hij)
   ·rw [if_neg h2]
    exact h.t i j hj hij
end Wells
