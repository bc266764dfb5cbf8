/- Drive Drv -/
import Derived.Deep.RegionHeld3
import Derived.BigGuardPart
import Derived.Test.YtnknjeipfjdjoaaGreatDoorBScanTells01
import Derived.Test.YtnknjeipfjdjoaaGreatDoorBScanTells03
set_option maxHeartbeats 8000000
set_option maxRecDepth 20000
set_option linter.unusedSimpArgs false
set_option linter.unusedVariables false
namespace Go.Proofs.YtnknjeipfjdjoaaGreatDoor
open Go.RowKit Wells
theorem OBs.lt {base:Nat} {w:World} {v:Value} {vs:List Value} {ls:List (List Byte)} (h:OBs base w v vs ls):∀ x∈vs,∀ k,x.ownBlock=some k→base≤k∧k < w.heap.size:=fun x hx k hk=>by
 have hl:vs.length=ls.length:=by have:=h.own.1;omega
 obtain ⟨i,hi,rfl⟩:=List.getElem_of_mem hx;have:=h.at_ i (by omega)
 rw [ZgD,ZgE hi] at this;exact Zz2q this k hk
theorem Zz8d {vs:List Value} {x:Value} {m:Nat} (hd:Dist vs) (h:∀ a∈vs,∀ k,a.ownBlock=some k→k < m) (hx:∀ k,x.ownBlock=some k→m≤k):Dist (vs++ [x]):=by
 unfold Dist;rw [List.pairwise_append];refine ⟨hd,List.pairwise_singleton _ _,fun a ha b hb k hk e=> ?_⟩;rw [List.mem_singleton] at hb;subst hb;have:=h a ha k hk
 have:=hx k e
 omega
theorem Zzhk (B:Nat) (A:Option Addr) (vs:List Value) (ls:List (List Byte)) (n c:Nat) (w:World) (h:RBs w B A n vs ls) (hB:B≤w.heap.size) (hn:n≤1048576) (hl:∀ i,i < n→(ls.getD i []).length≤1048576):
  Calls Tryz.prog 79 #[.slice A n c] w fun e w'=>∃ A' c' vs',e= .returned (.slice A' n c')∧OBs w.heap.size w' (.slice A' n c') vs' ls∧Dist vs'∧Below w.heap.size w w':=by
 have HL:=hid h.len;have HLL:=hid hl;obtain ⟨i1,hi',hz0',hz1',hz2'⟩:=info_parts infoBs;clear hl;generalize hg:w.heap.size=G at*;have HG:=hid hg;clear hg;go_enter Tryz.func79,Tryz.ntmps79;go_wp2_with fail;go_loopw [3,8] (fun v i wr=>∃ (k:Nat) (vs':List Value) (Ao:Option Addr) (co:Nat),k≤n∧i= .int .i64 k∧v= .slice Ao k co∧OBs G wr (.slice Ao k co) vs' (ls.take k)∧Dist vs'∧Below G w wr) (fun _ i _=>n - (intOf i).toNat)
 case atStart=>exact ⟨0, [],none,0,by omega,rfl,rfl,OBs.nil_ _ _,List.Pairwise.nil,Below.refl _ _⟩
 case round=>
  obtain ⟨k,vs',Ao,co,hk,rfl,rfl,ho,hdi,hbw⟩:=hrel;have hsz:G≤wr.heap.size:=by have:=hbw.size;have:=HG.out;omega
  by_cases hlt:k < n
  ·obtain ⟨b,o,A1,c1,rfl,hb,hc,hl1,hc1,sl1⟩:=((h.mono hB).below hbw).get hlt
   have hkl:k < ls.length:=by rw [HL.out];exact hlt
   have HTK:=hid (show ls.take (k+1)=ls.take k++ [ls.getD k []] by rw [ZtS hkl];simp [hkl]);have hlk:=hid (show (ls.take k).length=k by simp;omega);have hxl:=HLL.out k hlt;generalize ls.getD k []=x at*;generalize hlx:x.length=lx at*;have HX:=hid hlx;clear hlx;go_wp2_with fail;refine (Zz3f G A1 x lx c1 _ sl1 hsz (by omega)).mono ?_;rintro e w2 ⟨v2,rfl,hx2,hb2⟩;obtain ⟨A2,c2,ev2,hc21,hc22,_⟩:=hx2.read;rw [HX.out] at ev2 hc21;subst ev2;have hold:∀ a∈vs',∀ k,a.ownBlock=some k→k < wr.heap.size:=fun a ha k hk=>(ho.lt a ha k hk).2
   have hnew:∀ k,(Value.slice A2 lx c2).ownBlock=some k→wr.heap.size≤k:=fun k hk=>(Zz2q hx2 k hk).1
   have hdi2:=Zz8d hdi hold hnew;have HDI:=hid hdi2;clear hold hnew hdi hdi2;have ho2:=ho.below hb2;have hw2:=ho2.own;rw [hlk.out] at hw2;go_wp2_with (at_builtin;go_must (refine Zz03 rfl (.tmp 12) (.tmp 15) 23 rfl G 33 i1 (.slice none 0 0) 1 24 Tryz.underlying23 hi' hz0' hz1' hz2' rfl (by omega) (.slice Ao k co) k vs' rfl (hw2.alloc _) _ _ 1 1 _ rfl (Sl.fresh _ _ _ _ 1 rfl) (by simp [Value.oneCell']) (k+1) rfl _ rfl (by omega) (by omega) (by have:=hb2.size;simp;omega) ?_);intro A6 c6 w6 o6 g6 _)
   have b6:Below G w w6:=Zz04 ((hbw.trans (hb2.mono hsz)).alloc (by have:=hb2.size;omega) _) (hw2.alloc _) g6 (ZnR _) (by have:=hb2.size;simp;omega);have ho6:=(ho2.below ((Below.refl _ _).alloc (ZnR _) _)).push (x:=x) (OB.below (base:=G) (Zz0b hx2 hsz) ((Below.refl _ _).alloc (ZnR _) _)) (by rw [hlk.out];exact o6) g6;go_roundw
   case rel=>exact ⟨k+1,_,A6,c6,by omega,by go_num,rfl,by rw [HTK.out];exact ho6,HDI.out,b6⟩
   case measure=>simp [intOf];omega
  ·have hkn:n=k:=by omega
   subst hkn;go_wp2_with fail;go_ret
   rw [ZtL (by rw [HL.out];omega)] at ho;exact ⟨Ao,co,vs',rfl,ho,hdi,hbw⟩
end Go.Proofs.YtnknjeipfjdjoaaGreatDoor
namespace Wells
open Go Go.RowKit
structure Dr where
 s:Pw
 room:Nat
 L:List (List Byte)
 wait:Nat
 B:List (List Byte)
 has:Bool
 lost:Bool
def Dr.new (s:Pw) (room:Nat):Dr:=⟨s,room, [],0, [],false,false⟩
def Dr.went (d:Dr):Dr:={ d with B:= [],has:=false}
def Dr.append (d:Dr) (b:List Byte):Dr×Int:=
 if b.length≠64 then (d,1) else if d.lost then (d,5) else if d.room≤d.L.length then (d,7) else if d.s.off then (d,14)
 else if d.s.goes then ({ d with L:=d.L++ [b],wait:=d.wait+1,s:=d.s.step}.went,0) else ({ d with L:=d.L++ [b],wait:=d.wait+1,s:=d.s.step},14)
def Dr.sync (d:Dr):Dr×Int:=
 if d.lost then (d,5) else if d.s.goes then ({ d with wait:=0,s:=d.s.step}.went,0) else ({ d with s:=d.s.step},14)
def drRow (pg:Nat) (d:Dr) (lv bv:Value):List Value:= [.pointer (some ⟨pg,0,none⟩),.int .i64 d.room,lv,.int .i64 d.wait,bv,.bool d.has,.bool d.lost]
structure DOk (m:Nat) (d:Dr):Prop where
 room:1≤d.room∧d.room≤512
 len:d.L.length≤d.room
 lenB:d.B.length≤d.room
 wait:d.wait≤d.L.length
 cells:∀ x∈d.L,x.length=64
 cellsB:∀ x∈d.B,x.length=64
 left:0≤d.s.left∧d.s.left≤9223372036854775807
 offs:0≤d.s.offs∧d.s.offs≤m
end Wells
namespace Go.Proofs.YtnknjeipfjdjoaaGreatDoor
open Go.RowKit Wells
structure Drv (F:Nat→Prop) (w:World) (g pg:Nat) (lv:Value) (lvs:List Value) (bv:Value) (bvs:List Value) (d:Dr):Prop where
 row:Row w g 104 (drRow pg d lv bv)
 pow:Row w pg 106 (pw d.s)
 fg:F g
 fp:F pg
 lt:∀ k,F k→k < w.heap.size
 l:Lst F w lv lvs d.L
 b:Lst F w bv bvs d.B
 sep:∀ k,lv.ownBlock=some k→bv.ownBlock≠some k
 dist:Dist (lvs++bvs)
def DrvE (F:Nat→Prop) (w:World) (g pg:Nat) (d:Dr):Prop:=∃ lv lvs bv bvs,Drv F w g pg lv lvs bv bvs d
theorem Drv.only {F G:Nat→Prop} {w w':World} {g pg:Nat} {lv bv:Value} {lvs bvs:List Value} {d:Dr} (h:Drv F w g pg lv lvs bv bvs d) (ho:Only G w w') (hd:∀ k,F k→¬ G k):Drv F w' g pg lv lvs bv bvs d:=
 ⟨h.row.only ho (hd g h.fg),h.pow.only ho (hd pg h.fp),h.fg,h.fp,fun k hk=>Nat.lt_of_lt_of_le (h.lt k hk) ho.size,h.l.only ho hd,h.b.only ho hd,h.sep,h.dist⟩
theorem DrvE.only {F G:Nat→Prop} {w w':World} {g pg:Nat} {d:Dr} (h:DrvE F w g pg d) (ho:Only G w w') (hd:∀ k,F k→¬ G k):DrvE F w' g pg d:=by
 obtain ⟨lv,lvs,bv,bvs,h⟩:=h;exact ⟨lv,lvs,bv,bvs,h.only ho hd⟩
theorem DrvE.new_ {F:Nat→Prop} {w w':World} {g pg:Nat} {d:Dr} (h:DrvE F w g pg d) (hb:Below w.heap.size w w'):DrvE F w' g pg d:=
 h.only (Only.of_new (F:=fun _=>False) hb) (fun _ _ hf=>hf)
theorem Drv.more {F G:Nat→Prop} {w:World} {g pg:Nat} {lv bv:Value} {lvs bvs:List Value} {d:Dr} (h:Drv F w g pg lv lvs bv bvs d) (hs:∀ k,F k→G k) (hl:∀ k,G k→k < w.heap.size):Drv G w g pg lv lvs bv bvs d:=
 ⟨h.row,h.pow,hs g h.fg,hs pg h.fp,hl,h.l.mono hs,h.b.mono hs,h.sep,h.dist⟩
theorem Zz10 {base g:Nat} {w:World} {e t:TypeId} {size n:Nat} {v:Value} {xs cs:List Value} (h:w.ownsRow base e size v n xs) (hr:Row w g t cs) (hne:e≠t):∀ k,v.ownBlock=some k→k≠g:=fun k hk e1=>by
 subst e1;rcases Zz2i h hr hne with h1 | h1
 ·rw [h1] at hk;cases hk
 ·exact h1 hk
theorem OBs.far {base g:Nat} {w:World} {t:TypeId} {v:Value} {vs:List Value} {ls:List (List Byte)} {cs:List Value} (h:OBs base w v vs ls) (hr:Row w g t cs) (h1:33≠t) (h2:5≠t) (i:Nat) (x:Value):OBs base (w.setCell ⟨g,i,none⟩ x) v vs ls:=by
 have ho:Only (fun k=>k=g) w (w.setCell ⟨g,i,none⟩ x):=Only.set (F:=fun k=>k=g) (Only.refl _ w) (show g=g from rfl) i x;refine h.only ho (fun k hk e=>Zz10 h.own hr h1 k hk e) fun y hy k hk e=> ?_
 have hl:vs.length=ls.length:=by have:=h.own.1;omega
 obtain ⟨j,hj,rfl⟩:=List.getElem_of_mem hy;have:=h.at_ j (by omega)
 rw [ZgD,ZgE hj] at this;exact Zz10 this hr h2 k hk e
theorem Lst.far {F:Nat→Prop} {g:Nat} {w:World} {t:TypeId} {v:Value} {vs:List Value} {ls:List (List Byte)} {cs:List Value} (h:Lst F w v vs ls) (hr:Row w g t cs) (h1:33≠t) (h2:5≠t) (i:Nat) (x:Value):Lst F (w.setCell ⟨g,i,none⟩ x) v vs ls:=
 ⟨h.own.far hr h1 h2 i x,h.iv,h.is⟩
theorem Zz75 (F:Nat→Prop) (g pg:Nat) (d:Dr) (m:Nat) (w:World) (h:DrvE F w g pg d) (hok:DOk m d):Calls Tryz.prog 43 #[.pointer (some ⟨g,0,none⟩)] w fun e w'=>∃ A c vs,e= .returned (.slice A d.L.length c)∧OBs w.heap.size w' (.slice A d.L.length c) vs d.L∧Dist vs∧Below w.heap.size w w':=by
 obtain ⟨lv,lvs,bv,bvs,h⟩:=h;obtain ⟨A,c,rfl,_,_⟩:=h.l.own.form;have c2:=h.row.cell 2;have e2:(drRow pg d (.slice A d.L.length c) bv)[2]? =some (.slice A d.L.length c):=rfl;rw [e2] at c2;clear e2;have hrd:=h.l.own.read rfl;have hln:=hok.len;have hrm:=hok.room;have HC:=hid hok.cells;go_enter Tryz.func43,Tryz.ntmps43;go_wp2_with fail;refine (Zzhk w.heap.size A lvs d.L d.L.length c w hrd (ZnR _) (by omega) (fun i hi=>by
  rw [ZgD,ZgE hi];have:=HC.out _ (List.getElem_mem hi)
  simp only [Option.getD_some];omega)).mono ?_
 rintro e w2 ⟨A2,c2,vs2,rfl,ho,hdi,hb2⟩;go_wp2_with fail;go_ret
 exact ⟨A2,c2,vs2,rfl,ho,hdi,hb2⟩
end Go.Proofs.YtnknjeipfjdjoaaGreatDoor
