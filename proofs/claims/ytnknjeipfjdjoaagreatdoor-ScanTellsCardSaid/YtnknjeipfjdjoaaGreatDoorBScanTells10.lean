/- DrvOps DrvSync DrvApp DrvApp2 DrvTorn DrvRew DrvMore DrvSpoil Law22 -/
import Derived.Deep.RegionLaw
import Derived.Deep.AppendLies
import Derived.Deep.DeepCutAuto
import Derived.ArgAppend
import Derived.Test.YtnknjeipfjdjoaaGreatDoorBScanTells02
import Derived.Test.YtnknjeipfjdjoaaGreatDoorBScanTells09
set_option maxHeartbeats 8000000
set_option maxRecDepth 20000
set_option linter.unusedSimpArgs false
set_option linter.unusedVariables false
set_option linter.unusedSectionVars false
namespace Go.Proofs.YtnknjeipfjdjoaaGreatDoor
open Go.RowKit Wells
theorem Zzhp {w:World} {g g':Nat} {t t':TypeId} {cs cs':List Value} (h:Row w g t cs) (h':Row w g' t' cs') (hne:t≠t'):g≠g':=fun e=>by
 subst e;unfold Row at h h';rw [h] at h';injection h' with h';injection h' with _ h' _;exact hne h'
section
variable {F:Nat→Prop} {w:World} {g pg:Nat} {lv bv:Value} {lvs bvs:List Value} {d:Dr}
theorem Drv.ne (h:Drv F w g pg lv lvs bv bvs d):g≠pg:=Zzhp h.row h.pow (by decide)
theorem Drv.setWait (h:Drv F w g pg lv lvs bv bvs d) (n:Nat):Drv F (w.setCell ⟨g,3,none⟩ (.int .i64 n)) g pg lv lvs bv bvs { d with wait:=n}:=
 ⟨h.row.set 3 _,h.pow.far (Ne.symm h.ne) _,h.fg,h.fp,fun k hk=>by simpa [World.setCell] using h.lt k hk,h.l.far h.row (by decide) (by decide) _ _,h.b.far h.row (by decide) (by decide) _ _,h.sep,h.dist⟩
theorem Drv.setB (h:Drv F w g pg lv lvs bv bvs d) {bv':Value} {bvs':List Value} {B':List (List Byte)} (hl:Lst F w bv' bvs' B') (hs:∀ k,lv.ownBlock=some k→bv'.ownBlock≠some k) (hd:Dist (lvs++bvs')):
  Drv F (w.setCell ⟨g,4,none⟩ bv') g pg lv lvs bv' bvs' { d with B:=B'}:=
 ⟨h.row.set 4 bv',h.pow.far (Ne.symm h.ne) _,h.fg,h.fp,fun k hk=>by simpa [World.setCell] using h.lt k hk,h.l.far h.row (by decide) (by decide) _ _,hl.far h.row (by decide) (by decide) _ _,hs,hd⟩
theorem Drv.setHas (h:Drv F w g pg lv lvs bv bvs d) (b:Bool):Drv F (w.setCell ⟨g,5,none⟩ (.bool b)) g pg lv lvs bv bvs { d with has:=b}:=
 ⟨h.row.set 5 _,h.pow.far (Ne.symm h.ne) _,h.fg,h.fp,fun k hk=>by simpa [World.setCell] using h.lt k hk,h.l.far h.row (by decide) (by decide) _ _,h.b.far h.row (by decide) (by decide) _ _,h.sep,h.dist⟩
theorem Zzda {a b:List Value} (h:Dist (a++b)):Dist a:=(List.pairwise_append.1 h).1
theorem Drv.noB (h:Drv F w g pg lv lvs bv bvs d):Drv F (w.setCell ⟨g,4,none⟩ (.slice none 0 0)) g pg lv lvs (.slice none 0 0) [] { d with B:= []}:=
 h.setB (Lst.nil_ F w) (fun k _ e=>by cases e) (by rw [List.append_nil];exact Zzda h.dist)
theorem Drv.went (h:Drv F w g pg lv lvs bv bvs d):Drv F ((w.setCell ⟨g,4,none⟩ (.slice none 0 0)).setCell ⟨g,5,none⟩ (.bool false)) g pg lv lvs (.slice none 0 0) [] d.went:=h.noB.setHas false
theorem Drv.power (h:Drv F w g pg lv lvs bv bvs d) {w':World} {s':Pw} (hr:Row w' pg 106 (pw s')) (hg:w.grownBy w' (some pg)):Drv F w' g pg lv lvs bv bvs { d with s:=s'}:=by
 have ho:Only (fun k=>k=pg) w w':=Only.of_grown hg (fun k e=>by injection e with e;exact e.symm);have fl:∀ {v:Value} {vs:List Value} {ls:List (List Byte)},Lst F w v vs ls→Lst F w' v vs ls:=fun hl=>
  ⟨hl.own.only ho (fun k hk e=>Zz10 hl.own.own h.pow (by decide) k hk e) (fun y hy k hk e=>by
   have hll:=hl.len;obtain ⟨j,hj,rfl⟩:=List.getElem_of_mem hy;have:=hl.own.at_ j (by omega)
   rw [ZgD,ZgE hj] at this;exact Zz10 this h.pow (by decide) k hk e),hl.iv,hl.is⟩
 exact ⟨h.row.only ho h.ne,hr,h.fg,h.fp,fun k hk=>Nat.lt_of_lt_of_le (h.lt k hk) hg.size,fl h.l,fl h.b,h.sep,h.dist⟩
end
theorem Zzbh (n pg:Nat) (s:Pw) (w:World) (hn:1≤n) (hn2:n≤512) (hp:Row w pg 106 (pw s)):
  Calls Tryz.prog 25 #[.int .i64 n,.pointer (some ⟨pg,0,none⟩)] w fun e w'=>∃ g,e= .returned (.pointer (some ⟨g,0,none⟩))∧w.heap.size≤g∧DrvE (fun k=>k=g∨k=pg) w' g pg (Dr.new s n)∧Below w.heap.size w w':=by
 have hr:=Row.new w 104 #[.pointer (some ⟨pg,0,none⟩),.int .i64 n,.slice none 0 0,.int .i64 0,.slice none 0 0,.bool false,.bool false];have hpl:=hp.lt;go_enter Tryz.func25,Tryz.ntmps25;go_wp2_with fail;go_ret
 refine ⟨w.heap.size,rfl,ZnR _,⟨.slice none 0 0, [],.slice none 0 0, [],hr,hp.alloc _,.inl rfl,.inr rfl,fun k hk=> ?_,Lst.nil_ _ _,Lst.nil_ _ _,fun k e=>(by cases e),List.Pairwise.nil⟩,(Below.refl _ _).alloc (ZnR _) _⟩;rcases hk with rfl | rfl <;> simp <;> omega
theorem Zz8t (F:Nat→Prop) (g pg:Nat) (d:Dr) (w:World) (h:DrvE F w g pg d):Calls Tryz.prog 77 #[.pointer (some ⟨g,0,none⟩)] w fun e w'=>e= .returned (.int .i64 0)∧DrvE F w' g pg d.went∧Only F w w':=by
 obtain ⟨lv,lvs,bv,bvs,h⟩:=h;have c4:=h.row.cell 4;have c5:=h.row.cell 5;have f4:=h.row.frozen 4;have f5:=h.row.frozen 5;have e4:(drRow pg d lv bv)[4]? =some bv:=rfl;have e5:(drRow pg d lv bv)[5]? =some (.bool d.has):=rfl;rw [e4] at c4;rw [e5] at c5;clear e4 e5;have hw:=h.went;have ho:Only F w ((w.setCell ⟨g,4,none⟩ (.slice none 0 0)).setCell ⟨g,5,none⟩ (.bool false)):=((Only.refl F w).set h.fg 4 _).set h.fg 5 _;go_enter Tryz.func77,Tryz.ntmps77;go_wp2_with fail;go_ret
 exact ⟨rfl,⟨_,_,_,_,hw⟩,ho⟩
theorem Zzf6 (F:Nat→Prop) (g pg:Nat) (d:Dr) (m:Nat) (w:World) (h:DrvE F w g pg d) (hok:DOk m d) (hm:m≤1000000):
  Calls Tryz.prog 40 #[.pointer (some ⟨g,0,none⟩)] w fun e w'=>e= .returned (.int .i64 d.sync.2)∧DrvE F w' g pg d.sync.1∧Only F w w':=by
 obtain ⟨lv,lvs,bv,bvs,h⟩:=h;have c6:=h.row.cell 6;have c0:=h.row.cell 0;have e6:(drRow pg d lv bv)[6]? =some (.bool d.lost):=rfl;have e0:(drRow pg d lv bv)[0]? =some (.pointer (some ⟨pg,0,none⟩)):=rfl;rw [e6] at c6;rw [e0] at c0;clear e6 e0;obtain ⟨S,hS⟩:∃ S,d.sync=S:=⟨_,rfl⟩;rw [hS];have HS:=hid hS;clear hS;have hl:=hok.left;have ho1:=hok.offs.1;have ho2:=hok.offs.2;cases hlo:d.lost with
 | true=>
  rw [hlo] at c6;have hs:S=(d,5):=by rw [← HS.out];unfold Dr.sync;rw [hlo];rfl
  subst hs;go_enter Tryz.func40,Tryz.ntmps40;go_wp2_with fail;go_ret
  exact ⟨rfl,⟨_,_,_,_,h⟩,Only.refl _ _⟩
 | false=>
  rw [hlo] at c6;have HLO:=hid hlo;clear hlo;go_enter Tryz.func40,Tryz.ntmps40;go_wp2_with fail;refine (Zz8r pg d.s w h.pow hl ⟨ho1,by omega⟩).mono ?_;rintro e w1 ⟨rfl,hp1,hg1⟩;have h1:=h.power hp1 hg1;have o1:Only F w w1:=Only.of_grown hg1 (fun k e=>by injection e with e;rw [← e];exact h.fp);have c3:=h1.row.cell 3;have f3:=h1.row.frozen 3;have e3:(drRow pg { d with s:=d.s.step} lv bv)[3]? =some (.int .i64 (d.wait:Int)):=rfl;rw [e3] at c3;clear e3;cases hgo:d.s.goes with
  | false=>
   have hs:S=({ d with s:=d.s.step},14):=by rw [← HS.out];unfold Dr.sync;rw [HLO.out,hgo];rfl
   subst hs;clear hgo;go_wp2_with fail;go_ret
   exact ⟨rfl,⟨_,_,_,_,h1⟩,o1⟩
  | true=>
   have hs:S=({ d with wait:=0,s:=d.s.step}.went,0):=by rw [← HS.out];unfold Dr.sync;rw [HLO.out,hgo];rfl
   subst hs;clear hgo;go_wp2_with fail;refine (Zz8t F g pg _ _ ⟨_,_,_,_,h1.setWait 0⟩).mono ?_;rintro e w2 ⟨rfl,h2,o2⟩;go_wp2_with fail;go_ret
   exact ⟨rfl,h2,(o1.set h.fg 3 _).trans o2 (fun _ _ hk=>hk)⟩
theorem Lst.set_ {F:Nat→Prop} {w:World} {g:Nat} {t:TypeId} {v:Value} {vs:List Value} {ls:List (List Byte)} {cs:List Value} (h:OBs 0 w v vs ls) (hv:In v F) (hs:∀ x∈vs,In x F) (hr:Row w g t cs) (h1:33≠t) (h2:5≠t) (i:Nat) (x:Value):Lst F (w.setCell ⟨g,i,none⟩ x) v vs ls:=
 Lst.far ⟨h,hv,hs⟩ hr h1 h2 i x
theorem OBs.elem {base:Nat} {w:World} {v:Value} {vs:List Value} {ls:List (List Byte)} (h:OBs base w v vs ls) {x:Value} (hx:x∈vs):∃ l,OB base w x l:=by
 have hl:vs.length=ls.length:=by have:=h.own.1;omega
 obtain ⟨i,hi,rfl⟩:=List.getElem_of_mem hx;have:=h.at_ i (by omega)
 rw [ZgD,ZgE hi] at this;exact ⟨_,this⟩
theorem Drv.appended {F:Nat→Prop} {w w2 w3:World} {g pg:Nat} {lv bv lv' xv:Value} {lvs bvs:List Value} {d:Dr} {x:List Byte} (h:Drv F w g pg lv lvs bv bvs d) (hb2:Below w.heap.size w w2) (hx:OB w.heap.size w2 xv x) (o:Obj)
  (ho3:w3.ownsRow 0 33 1 lv' (d.L.length+1) (lvs++ [xv])) (gr3:(w2.alloc o).grownBy w3 lv.ownBlock) (hwh:∀ k,lv'.ownBlock=some k→(lv.ownBlock=some k∨k=(w2.alloc o).heap.size)∧k < w3.heap.size):
  Drv (Ext F w w3) (w3.setCell ⟨g,2,none⟩ lv') g pg lv' (lvs++ [xv]) bv bvs { d with L:=d.L++ [x]}∧Only F w w3∧Row w3 g 104 (drRow pg d lv bv):=by
 have hsz:=hb2.size;have hb2a:Below w.heap.size w (w2.alloc o):=hb2.alloc hsz o;have hsa:(w2.alloc o).heap.size=w2.heap.size+1:=by simp
 have hs3:=gr3.size;have hO:Only (fun k=>lv.ownBlock=some k) w w3:=(Only.of_new hb2a).trans (Only.of_grown (F:=fun k=>lv.ownBlock=some k) gr3 (fun k e=>e)) (fun _ _ hk=>hk);have hOF:Only F w w3:=hO.mono (fun k hk=>h.l.iv k hk);have row3:=h.row.only hO (fun e=>Zz10 h.l.own.own h.row (by decide) g e rfl);have pow3:=h.pow.only hO (fun e=>Zz10 h.l.own.own h.pow (by decide) pg e rfl);have L3:OBs 0 w3 lv' (lvs++ [xv]) (d.L++ [x]):=(h.l.own.below hb2a).push (x:=x) (OB.below (base:=0) (Zz0b hx (Nat.zero_le _)) ((Below.refl _ _).alloc (ZnR _) _)) ho3 gr3;have B3:OBs 0 w3 bv bvs d.B:=h.b.own.only hO (fun k hk e=>h.sep k e hk) (fun y hy k hk e=>by
  obtain ⟨l',hl'⟩:=h.b.own.elem hy;rcases Zz0i hl' h.l.own.own (by decide) with h1 | h1
  ·rw [h1] at hk;cases hk
  ·exact h1 (hk.trans e.symm))
 have hxn:∀ k,xv.ownBlock=some k→w.heap.size≤k∧k < w3.heap.size:=fun k hk=>by
  have:=Zz2q hx k hk
  omega
 have hext:∀ k,F k→Ext F w w3 k:=fun k hk=> .inl hk
 have hxe:In xv (Ext F w w3):=fun k hk=> .inr (hxn k hk)
 have hve:In lv' (Ext F w w3):=fun k hk=>by
  obtain ⟨h1,h2⟩:=hwh k hk;rcases h1 with h1 | h1
  ·exact .inl (h.l.iv k h1)
  ·exact .inr ⟨by omega,h2⟩
 have hes:∀ y∈lvs++ [xv],In y (Ext F w w3):=fun y hy=>by
  rcases List.mem_append.1 hy with hy | hy
  ·exact (h.l.is y hy).mono hext
  ·rw [List.mem_singleton] at hy;subst hy;exact hxe
 refine ⟨⟨row3.set 2 lv',pow3.far (Ne.symm h.ne) _,.inl h.fg,.inl h.fp,fun k hk=> ?_,Lst.set_ L3 hve hes row3 (by decide) (by decide) _ _,Lst.set_ B3 (h.b.iv.mono hext) (fun y hy=>(h.b.is y hy).mono hext) row3 (by decide) (by decide) _ _,fun k hk e=> ?_,?_⟩,hOF,row3⟩
 ·have:k < w3.heap.size:=by
   rcases hk with hk | hk
   ·have:=h.lt k hk;omega
   ·exact hk.2
  simpa [World.setCell] using this
 ·rcases (hwh k hk).1 with h1 | h1
  ·exact h.sep k h1 e
  ·have:=h.lt k (h.b.iv k e)
   omega
 ·have hd:=h.dist
  unfold Dist at hd ⊢;rw [List.pairwise_append] at hd ⊢;obtain ⟨d1,d2,d3⟩:=hd;refine ⟨?_,d2,fun a ha b hb k hk e=> ?_⟩
  ·exact Zz8d d1 (m:=w.heap.size) (fun a ha k hk=>h.lt k (h.l.is a ha k hk)) (fun k hk=>(hxn k hk).1)
  ·rcases List.mem_append.1 ha with ha | ha
   ·exact d3 a ha b hb k hk e
   ·rw [List.mem_singleton] at ha
    subst ha;have:=(hxn k hk).1
    have:=h.lt k (h.b.is b hb k e)
    omega
theorem DrvE.drew_ {F:Nat→Prop} {w:World} {g pg:Nat} {d:Dr} (h:DrvE F w g pg d):DrvE F w.drew g pg d:=h.only (Only.refl (fun _=>False) w).drew (fun _ _ hf=>hf)
theorem Drv.drew_ {F:Nat→Prop} {w:World} {g pg:Nat} {lv bv:Value} {lvs bvs:List Value} {d:Dr} (h:Drv F w g pg lv lvs bv bvs d):Drv F w.drew g pg lv lvs bv bvs d:=h.only (Only.refl (fun _=>False) w).drew (fun _ _ hf=>hf)
theorem Drv.ext_set {F:Nat→Prop} {w w3:World} {a:Addr} {v:Value} {g pg:Nat} {lv bv:Value} {lvs bvs:List Value} {d:Dr} (h:Drv (Ext F w.drew w3) (w3.setCell a v) g pg lv lvs bv bvs d):Drv (Ext F w (w3.setCell a v)) (w3.setCell a v) g pg lv lvs bv bvs d:=
 h.more (fun k hk=>by
  rcases hk with hk | ⟨h1,h2⟩
  ·exact .inl hk
  ·exact .inr ⟨h1,by simpa [World.setCell] using h2⟩) (fun k hk=>by
  rcases hk with hk | ⟨_,h2⟩
  ·exact h.lt k (.inl hk)
  ·exact h2)
theorem DrvE.widen {F:Nat→Prop} {w w1 wc w5:World} {g pg:Nat} {d:Dr} (h:DrvE (Ext F w1 wc) w5 g pg d) (hs:w1.heap.size=w.heap.size) (hc:wc.heap.size≤w5.heap.size):DrvE (Ext F w w5) w5 g pg d:=by
 obtain ⟨lv,lvs,bv,bvs,h⟩:=h;refine ⟨lv,lvs,bv,bvs,h.more (fun k hk=> ?_) (fun k hk=> ?_)⟩
 ·rcases hk with hk | ⟨h1,h2⟩
  ·exact .inl hk
  ·exact .inr ⟨by omega,by omega⟩
 ·rcases hk with hk | ⟨_,h2⟩
  ·exact h.lt k (.inl hk)
  ·exact h2
theorem Zz9w (F:Nat→Prop) (g pg:Nat) (d:Dr) (m:Nat) (B:Nat) (A:Option Addr) (l:List Byte) (n c:Nat) (w:World) (h:DrvE F w g pg d) (hok:DOk m d) (hm:m≤1000000) (hb:Sl w B 1 A n (l.map bv8)) (hB:B≤w.heap.size) (hn:n≤1048576):
  Calls Tryz.prog 38 #[.pointer (some ⟨g,0,none⟩),.slice A n c] w fun e w'=>e= .returned (.int .i64 (d.append l).2)∧DrvE (Ext F w w') w' g pg (d.append l).1∧Only F w w':=by
 obtain ⟨lv,lvs,bv,bvs,h⟩:=h;have hln:l.length=n:=by have:=hb.len;simpa using this
 have HLN:=hid hln;obtain ⟨S,hS⟩:∃ S,d.append l=S:=⟨_,rfl⟩;rw [hS];have HS:=hid hS;clear hS;have hsame:DrvE (Ext F w w) w g pg d:=⟨_,_,_,_,h.more (fun k hk=> .inl hk) (fun k hk=>by
  rcases hk with hk | hk
  ·exact h.lt k hk
  ·omega)⟩
 obtain ⟨Al,cl,rfl,hcl1,hcl2⟩:=h.l.own.form;obtain ⟨nl,hnl⟩:∃ k,d.L.length=k:=⟨_,rfl⟩;rw [hnl] at h hcl1;have HNL:=hid hnl;have hlen:=hok.len;have hroom:=hok.room;have c6:=h.row.cell 6;have c0:=h.row.cell 0;have c1:=h.row.cell 1;have c2:=h.row.cell 2;have e6:(drRow pg d (.slice Al nl cl) bv)[6]? =some (.bool d.lost):=rfl;have e0:(drRow pg d (.slice Al nl cl) bv)[0]? =some (.pointer (some ⟨pg,0,none⟩)):=rfl;have e1:(drRow pg d (.slice Al nl cl) bv)[1]? =some (.int .i64 (d.room:Int)):=rfl;have e2:(drRow pg d (.slice Al nl cl) bv)[2]? =some (.slice Al nl cl):=rfl;rw [e6] at c6;rw [e0] at c0;rw [e1] at c1;rw [e2] at c2;clear e6 e0 e1 e2;rw [hnl] at hlen;clear hnl;by_cases h64:n=64
 rotate_left
 ·have hs:S=(d,1):=by rw [← HS.out];unfold Dr.append;rw [if_pos (by rw [HLN.out];exact h64)]
  subst hs;have hb64:((n:Int) !=64)=true:=by simp;omega
  clear hln;go_enter Tryz.func38,Tryz.ntmps38;go_wp2_with fail;go_ret
  exact ⟨rfl,hsame,Only.refl _ _⟩
 subst h64;cases hlo:d.lost with
 | true=>
  rw [hlo] at c6;have hs:S=(d,5):=by rw [← HS.out];unfold Dr.append;rw [if_neg (by rw [HLN.out];simp),hlo];rfl
  subst hs;clear hln hlo;go_enter Tryz.func38,Tryz.ntmps38;go_wp2_with fail;go_ret
  exact ⟨rfl,hsame,Only.refl _ _⟩
 | false=>
  rw [hlo] at c6;have HLO:=hid hlo;clear hlo hln;by_cases hfull:d.room≤nl
  ·have hs:S=(d,7):=by rw [← HS.out];unfold Dr.append;rw [if_neg (by rw [HLN.out];simp),HLO.out,HNL.out,if_neg (by simp),if_pos hfull]
   subst hs;have hge:(d.room:Int)≤(nl:Int):=by omega
   have HH:=hid h;clear h;go_enter Tryz.func38,Tryz.ntmps38;go_wp2_with fail;go_region_held3 (fun w'=>w'.cell? ⟨g,2,none⟩=some (.slice Al nl cl)∧w'.cell? ⟨g,1,none⟩=some (.int .i64 (d.room:Int))) (first | exact ⟨c2,c1⟩ | assumption) (fail)
   go_wp2_with fail;go_ret
   exact ⟨rfl,hsame.drew_,(Only.refl _ _).drew⟩
  ·have hlt:(nl:Int) < (d.room:Int):=by omega
   have hlt2:nl < d.room:=by omega
   obtain ⟨i1,hi',hz0',hz1',hz2'⟩:=info_parts infoBs;have hgl:=h.row.lt;go_enter Tryz.func38,Tryz.ntmps38;go_wp2_with fail;go_region_held3 (fun w'=>w'.cell? ⟨g,2,none⟩=some (.slice Al nl cl)∧w'.cell? ⟨g,1,none⟩=some (.int .i64 (d.room:Int))) (first | exact ⟨c2,c1⟩ | assumption) (fail)
   go_wp2_with fail;refine (Zz6f pg d.s w.drew h.pow.drew).mono ?_;rintro e w1 ⟨rfl,hw1⟩;rw [← hw1];clear hw1 w1;cases hoff:d.s.off with
   | true=>
    have hs:S=(d,14):=by rw [← HS.out];unfold Dr.append;rw [if_neg (by rw [HLN.out];simp),HLO.out,HNL.out,if_neg (by simp),if_neg hfull,if_pos hoff]
    subst hs;clear hoff;go_wp2_with fail;go_ret
    exact ⟨rfl,hsame.drew_,(Only.refl _ _).drew⟩
   | false=>
    have HOFF:=hid hoff;clear hoff;have hD:=h.drew_;have sD:=hb.drew;have eo:Only F w w.drew:=(Only.refl _ _).drew;have es:w.drew.heap.size=w.heap.size:=rfl;have d2:w.drew.cell? ⟨g,2,none⟩=some (.slice Al nl cl):=c2;have d0:w.drew.cell? ⟨g,0,none⟩=some (.pointer (some ⟨pg,0,none⟩)):=c0;clear c0 c1 c2 c6;have ESZ:=hid es;clear es;generalize w.drew=w1 at*;have hg1:=hD.row.lt;have hB1:B≤w1.heap.size:=by rw [ESZ.out];exact hB
    go_upto_region 9 with fail;go_cut [] (fun wx=>∃ (lv':Value) (lvs':List Value),Drv (Ext F w1 wx) wx g pg lv' lvs' bv bvs { d with L:=d.L++ [l]}∧Only F w1 wx)
    case first=>
     have hD1:=hD.drew_;go_region_law (first
      | (refine step_append_lies _ rfl (.tmp 40) (.tmp 43) 23 rfl 0 33 i1 (.slice none 0 0) 1 24 Tryz.underlying23 hi' hz0' hz1' hz2' rfl (by omega) (.slice Al nl cl) nl lvs rfl (hl2.alloc _) ⟨w2.heap.size,0,none⟩ 1 1 [.slice A2 64 c2] rfl rfl (World.news_of_block (heap_alloc_new w2 _)) (by simp [Value.oneCell']) (by omega) (by unfold maxLen;omega) (by omega) (Nat.zero_le _) _ rfl ?_;intro g3 c3 w3 o3 gr3 hwh hlt3;obtain ⟨hDA,hOA,hRA⟩:=hD1.appended hb2 hx2 _ (by rw [HNL.out];exact o3) gr3 (fun k hk=>by have hk:some g3=some k:=hk;injection hk with hk;subst hk;exact ⟨hwh,hlt3⟩);have fA:=hRA.frozen 2;have cA:=hRA.cell 2;have eA:(drRow pg d (.slice Al nl cl) bv)[2]? =some (.slice Al nl cl):=rfl;rw [eA] at cA;clear eA)
      | (go_simp;go_at_call 75;refine (Zz3f B A l 64 c _ sD.drew hB1 (by omega)).mono ?_;rintro e w2 ⟨v2,rfl,hx2,hb2⟩;obtain ⟨A2,c2,ev2,hc21,hc22,_⟩:=hx2.read;rw [HLN.out] at ev2;subst ev2;have hl2:=hD1.l.own.own.kept (Zz02 hb2 none) (by cases (Value.slice Al nl cl).ownBlock <;> simp);rw [HNL.out] at hl2;have d2':=(hb2.cell (p:=⟨g,2,none⟩) hg1).trans d2;have d2'':=((((Below.refl w2.heap.size w2).alloc (ZnR _) (.cells #[.slice A2 64 c2] 33)).cell (p:=⟨g,2,none⟩) (Nat.lt_of_lt_of_le hg1 hb2.size)).trans d2')))
     all_goals (go_wp2_with fail;go_meet;exact ⟨_,_,hDA.ext_set,((Only.refl F w1).drew.trans hOA (fun _ _ hk=>hk)).set hD.fg 2 _⟩)
    case rest=>
    obtain ⟨lv',lvs',hD',hO'⟩:=hcut;have c3:=hD'.row.cell 3;have c0:=hD'.row.cell 0;have f3:=hD'.row.frozen 3;have e3:(drRow pg { d with L:=d.L++ [l]} lv' bv)[3]? =some (.int .i64 (d.wait:Int)):=rfl;have e0:(drRow pg { d with L:=d.L++ [l]} lv' bv)[0]? =some (.pointer (some ⟨pg,0,none⟩)):=rfl;rw [e3] at c3;rw [e0] at c0;clear e3 e0 d0 d2;have hwt:=hok.wait;rw [HNL.out] at hwt;have hD2:=hD'.setWait (d.wait+1);have hcast:((d.wait+1:Nat):Int)=(d.wait:Int)+1:=by omega
    rw [hcast] at hD2;clear hcast;have hO2:Only F w1 (wc.setCell ⟨g,3,none⟩ (.int .i64 ((d.wait:Int)+1))):=hO'.set hD.fg 3 _;have hz2:wc.heap.size≤(wc.setCell ⟨g,3,none⟩ (.int .i64 ((d.wait:Int)+1))).heap.size:=by simp [World.setCell]
    have hl:=hok.left;have ho1:=hok.offs.1;have ho2:=hok.offs.2;have HSZ:=hid ESZ.out;clear h hsame;go_wp2_with fail;generalize wc.setCell ⟨g,3,none⟩ (.int .i64 ((d.wait:Int)+1))=w4 at*;refine (Zz8r pg d.s w4 hD2.pow hl ⟨ho1,by omega⟩).mono ?_;rintro e w5 ⟨rfl,hp5,hg5⟩;have h5:=hD2.power hp5 hg5;have o5:Only F w1 w5:=hO2.trans (Only.of_grown (F:=F) hg5 (fun k e=>by injection e with e;rw [← e];exact hD.fp)) (fun _ _ hk=>hk);have hz5:=hg5.size;have o6:Only F w w5:=eo.trans o5 (fun _ _ hk=>hk);cases hgo:d.s.goes with
    | false=>
     have hs:S=({ d with L:=d.L++ [l],wait:=d.wait+1,s:=d.s.step},14):=by rw [← HS.out];unfold Dr.append;rw [if_neg (by rw [HLN.out];simp),HLO.out,HNL.out,if_neg (by simp),if_neg hfull,HOFF.out,if_neg (by simp),hgo,if_neg (by simp)]
     subst hs;clear hgo;go_wp2_with fail;go_ret
     exact ⟨rfl,DrvE.widen ⟨_,_,_,_,h5⟩ HSZ.out (by omega),o6⟩
    | true=>
     have hs:S=({ d with L:=d.L++ [l],wait:=d.wait+1,s:=d.s.step}.went,0):=by rw [← HS.out];unfold Dr.append;rw [if_neg (by rw [HLN.out];simp),HLO.out,HNL.out,if_neg (by simp),if_neg hfull,HOFF.out,if_neg (by simp),hgo,if_pos rfl]
     subst hs;clear hgo;go_wp2_with fail;refine (Zz8t (Ext F w1 wc) g pg _ _ ⟨_,_,_,_,h5⟩).mono ?_;rintro e w6 ⟨rfl,h6,o7⟩;have hz6:=o7.size;go_wp2_with fail;go_ret
     exact ⟨rfl,h6.widen HSZ.out (by omega),o6.trans o7 (fun k hk hx=>by
      rcases hx with hx | hx
      ·exact hx
      ·have:=HSZ.out;omega)⟩
theorem _root_.Wells.Sl.holds {w:World} {B n:Nat} {A:Option Addr} {xs:List Value} (h:Sl w B 1 A n xs):∀ b',A=some b'→∀ j u,xs[j]? =some u→w.cell? (b'.add j)=some u:=by
 intro b' e j u hu;have hl:=h.len;have hj:=(List.getElem?_eq_some_iff.1 hu).1;obtain ⟨b,o,e2,_,hc⟩:=h.at_ (by omega);rw [e] at e2;injection e2 with e2;subst e2;rw [Zz0m];exact hc j u hu
end Go.Proofs.YtnknjeipfjdjoaaGreatDoor
namespace Wells
open Go Go.RowKit
end Wells
namespace Go.Proofs.YtnknjeipfjdjoaaGreatDoor
open Go.RowKit Wells
theorem Drv.grow {F:Nat→Prop} {w w2:World} {g pg:Nat} {lv bv:Value} {lvs bvs:List Value} {d:Dr} (h:Drv F w g pg lv lvs bv bvs d) (hb:Below w.heap.size w w2):Drv (Ext F w w2) w2 g pg lv lvs bv bvs d:=
 (h.only (Only.of_new (F:=fun _=>False) hb) (fun _ _ hf=>hf)).more (fun k hk=> .inl hk) (fun k hk=>by
  rcases hk with hk | hk
  ·have:=h.lt k hk;have:=hb.size;omega
  ·exact hk.2)
end Go.Proofs.YtnknjeipfjdjoaaGreatDoor
namespace Wells
def Dr.read (d:Dr) (i:Int):List Byte:=if 0≤i∧i < d.L.length then d.L.getD i.toNat [] else []
end Wells
namespace Go.Proofs.YtnknjeipfjdjoaaGreatDoor
open Go.RowKit Wells
end Go.Proofs.YtnknjeipfjdjoaaGreatDoor
namespace Wells
open Go Go.RowKit
theorem Zz73 {w:World} {base size n:Nat} {t:TypeId} {v:Value} {xs:List Value} (h:w.ownsRow base t size v n xs) (hn:0 < n):
  ∃ g c cur,v= .slice (some ⟨g,0,none⟩) n c∧base≤g∧Row w g t cur∧cur.length=c*size∧cur.take (n*size)=xs∧n≤c∧c≤maxLen:=by
 rcases h.2 with ⟨hv,h0⟩ | ⟨g,cap,cur,hv,hb,hg,hn',hc,hs,ht⟩
 ·omega
 ·exact ⟨g,cap,cur.toList,hv,hb,by simpa [Row] using hg,by simpa using hs,by simpa using ht,hn',hc⟩
theorem Zzfj {w:World} {base size n c g i:Nat} {t:TypeId} {xs:List Value} (h:w.ownsRow base t size (.slice (some ⟨g,0,none⟩) n c) n xs) (hn:0 < n) (u:Value):
  (w.setCell ⟨g,i,none⟩ u).ownsRow base t size (.slice (some ⟨g,0,none⟩) n c) n (xs.set i u):=by
 obtain ⟨g',c',cur,e,hb,hr,hcl,hct,hnc,hcm⟩:=Zz73 h hn;injection e with e e2 e3;injection e with e;injection e with e _ _;subst e e3;refine ⟨by rw [List.length_set];exact h.1,.inr ⟨g,c,(cur.set i u).toArray,rfl,hb,hr.set i _,hnc,hcm,by simpa using hcl,?_⟩⟩;rw [← hct];simp only [List.toList_toArray,List.take_set]
theorem x8s (a b:BitVec 8):bits .xor .u8 (a.toNat:Int) (b.toNat:Int)=((a ^^^ b).toNat:Int):=by
 rw [u8_xor_nat _ _ a.isLt b.isLt,BitVec.toNat_xor]
end Wells
namespace Go.Proofs.YtnknjeipfjdjoaaGreatDoor
open Go.RowKit Wells
theorem Drv.at_ {F:Nat→Prop} {w:World} {g pg:Nat} {bv:Value} {lvs bvs:List Value} {d:Dr} {gl nl cl gi n ci i k:Nat} {x:List Byte} (h:Drv F w g pg (.slice (some ⟨gl,0,none⟩) nl cl) lvs bv bvs d) (hnl:d.L.length=nl) (hi:i < nl)
  (hv:lvs.getD i undef= .slice (some ⟨gi,0,none⟩) n ci) (hx:d.L.getD i []=x) (hn:x.length=n) (hk:k < n):
  w.cell? ⟨g,2,none⟩=some (.slice (some ⟨gl,0,none⟩) nl cl)∧w.cell? ⟨gl,i,none⟩=some (.slice (some ⟨gi,0,none⟩) n ci)∧w.cell? ⟨gi,k,none⟩=some (.int .u8 ((x.getD k 0).toNat:Int))∧w.frozen? ⟨gi,k,none⟩=false:=by
 have hll:=h.l.len;obtain ⟨gl',cl',curl,el,_,hrl,hcl1,hcl2,_,_⟩:=Zz73 h.l.own.own (by omega);injection el with el _ el2;injection el with el;injection el with el _ _;subst el;obtain ⟨gi',ci',cur,ei,_,hri,_,hci,_,_⟩:=Zz73 (h.l.own.at_ i (by omega)) (by rw [hx];omega);rw [hv] at ei;injection ei with ei _ ei2;injection ei with ei;injection ei with ei _ _;subst ei;rw [hx] at hci;refine ⟨h.row.cell 2,?_,?_,hri.frozen k⟩
 ·rw [hrl.cell,← hv,← List.getElem?_take_of_lt (show i < d.L.length*1 by omega),hcl2]
  simp [ZgD,show i < lvs.length by omega]
 ·rw [hri.cell,← List.getElem?_take_of_lt (show k < x.length*1 by omega),hci,List.getElem?_map]
  rw [ZgD,ZgE (show k < x.length by omega)];rfl
end Go.Proofs.YtnknjeipfjdjoaaGreatDoor
namespace Wells
open Go Go.RowKit
theorem Pw.step_ok {s:Pw} {m:Nat} (hl:0≤s.left∧s.left≤9223372036854775807) (ho:0≤s.offs∧s.offs≤m):(0≤s.step.left∧s.step.left≤9223372036854775807)∧(0≤s.step.offs∧s.step.offs≤(m+1:Nat)):=by
 unfold Pw.step;split
 ·exact ⟨hl,by omega,by omega⟩
 ·split
  ·split
   ·exact ⟨hl,by dsimp only;omega,by dsimp only;omega⟩
   ·exact ⟨⟨by dsimp only;omega,by dsimp only;omega⟩,by dsimp only;omega,by dsimp only;omega⟩
  ·exact ⟨hl,by omega,by omega⟩
theorem DOk.up {m:Nat} {d:Dr} (h:DOk m d):DOk (m+1) d:=⟨h.room,h.len,h.lenB,h.wait,h.cells,h.cellsB,h.left,by have:=h.offs;omega⟩
theorem DOk.went {m:Nat} {d:Dr} (h:DOk m d):DOk m d.went:=⟨h.room,h.len,Nat.zero_le _,h.wait,h.cells,(fun x hx=>by cases hx),h.left,h.offs⟩
theorem DOk.append {m:Nat} {d:Dr} {l:List Byte} (h:DOk m d):DOk (m+1) (d.append l).1:=by
 unfold Dr.append;split
 ·exact h.up
 ·split
  ·exact h.up
  ·split
   ·exact h.up
   ·split
    ·exact h.up
    ·rename_i h64 _ hfull _
     have hs:=Pw.step_ok h.left h.offs;have h1:DOk (m+1) { d with L:=d.L++ [l],wait:=d.wait+1,s:=d.s.step}:=
      ⟨h.room,by simp;omega,h.lenB,by have:=h.wait;simp;omega,fun x hx=>by
       rcases List.mem_append.1 hx with hx | hx
       ·exact h.cells x hx
       ·rw [List.mem_singleton] at hx;subst hx;exact Classical.not_not.1 h64,h.cellsB,hs.1,hs.2⟩
     split
     ·exact h1.went
     ·exact h1
theorem DOk.new_ {n:Nat} (h:1≤n∧n≤512):DOk 0 (Dr.new Pw.new n):=⟨h,Nat.zero_le _,Nat.zero_le _,ZnR _,(fun x hx=>by cases hx),(fun x hx=>by cases hx),⟨Int.le_refl _,by show (0:Int)≤9223372036854775807;omega⟩,⟨Int.le_refl _,Int.le_refl _⟩⟩
theorem DOk.sync {m:Nat} {d:Dr} (h:DOk m d):DOk (m+1) d.sync.1:=by
 unfold Dr.sync;split
 ·exact h.up
 ·have hs:=Pw.step_ok h.left h.offs
  split
  ·exact DOk.went ⟨h.room,h.len,h.lenB,Nat.zero_le _,h.cells,h.cellsB,hs.1,hs.2⟩
  ·exact ⟨h.room,h.len,h.lenB,h.wait,h.cells,h.cellsB,hs.1,hs.2⟩
end Wells
namespace Go.Proofs.YtnknjeipfjdjoaaGreatDoor
open Go.RowKit Wells
end Go.Proofs.YtnknjeipfjdjoaaGreatDoor
