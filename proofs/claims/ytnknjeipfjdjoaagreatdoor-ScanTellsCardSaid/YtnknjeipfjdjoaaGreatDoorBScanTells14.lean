/- RDrv -/
import Derived.Test.YtnknjeipfjdjoaaGreatDoorBScanTells08
import Derived.Test.YtnknjeipfjdjoaaGreatDoorBScanTells10
set_option maxHeartbeats 8000000
set_option maxRecDepth 20000
set_option linter.unusedSimpArgs false
set_option linter.unusedVariables false
set_option linter.unusedSectionVars false
namespace Wells
open Go Go.RowKit
def rdRow (pg:Nat) (d:Dr) (lv bv:Value):List Value:= [.int .i64 d.room,.pointer (some ⟨pg,0,none⟩),lv,.int .i64 d.wait,.bool d.has,bv,.bool d.lost]
end Wells
namespace Go.Proofs.YtnknjeipfjdjoaaGreatDoor
open Go.RowKit Wells
structure RDrv (F:Nat→Prop) (w:World) (g pg:Nat) (lv:Value) (lvs:List Value) (bv:Value) (bvs:List Value) (d:Dr):Prop where
 row:Row w g 56 (rdRow pg d lv bv)
 pow:Row w pg 79 (pw d.s)
 fg:F g
 fp:F pg
 lt:∀ k,F k→k < w.heap.size
 l:Lst F w lv lvs d.L
 b:Lst F w bv bvs d.B
 sep:∀ k,lv.ownBlock=some k→bv.ownBlock≠some k
def RDrvE (F:Nat→Prop) (w:World) (g pg:Nat) (d:Dr):Prop:=∃ lv lvs bv bvs,RDrv F w g pg lv lvs bv bvs d
section
variable {F G:Nat→Prop} {w w':World} {g pg:Nat} {lv bv:Value} {lvs bvs:List Value} {d:Dr}
theorem RDrv.only (h:RDrv F w g pg lv lvs bv bvs d) (ho:Only G w w') (hd:∀ k,F k→¬ G k):RDrv F w' g pg lv lvs bv bvs d:=
 ⟨h.row.only ho (hd g h.fg),h.pow.only ho (hd pg h.fp),h.fg,h.fp,fun k hk=>Nat.lt_of_lt_of_le (h.lt k hk) ho.size,h.l.only ho hd,h.b.only ho hd,h.sep⟩
theorem RDrvE.only (h:RDrvE F w g pg d) (ho:Only G w w') (hd:∀ k,F k→¬ G k):RDrvE F w' g pg d:=by
 obtain ⟨lv,lvs,bv,bvs,h⟩:=h;exact ⟨lv,lvs,bv,bvs,h.only ho hd⟩
theorem RDrvE.new_ (h:RDrvE F w g pg d) (hb:Below w.heap.size w w'):RDrvE F w' g pg d:=h.only (Only.of_new (F:=fun _=>False) hb) (fun _ _ hf=>hf)
theorem RDrvE.lt_ (h:RDrvE F w g pg d):∀ k,F k→k < w.heap.size:=by obtain ⟨_,_,_,_,h⟩:=h;exact h.lt
theorem RDrv.more (h:RDrv F w g pg lv lvs bv bvs d) (hs:∀ k,F k→G k) (hl:∀ k,G k→k < w.heap.size):RDrv G w g pg lv lvs bv bvs d:=
 ⟨h.row,h.pow,hs g h.fg,hs pg h.fp,hl,h.l.mono hs,h.b.mono hs,h.sep⟩
theorem RDrv.ext_ (h:RDrv F w g pg lv lvs bv bvs d):RDrv (Ext F w w) w g pg lv lvs bv bvs d:=h.more (fun k hk=> .inl hk) (fun k hk=>by
 rcases hk with hk | hk
 ·exact h.lt k hk
 ·omega)
theorem RDrv.ne (h:RDrv F w g pg lv lvs bv bvs d):g≠pg:=Zzhp h.row h.pow (by decide)
theorem RDrv.drew_ (h:RDrv F w g pg lv lvs bv bvs d):RDrv F w.drew g pg lv lvs bv bvs d:=h.only (Only.refl (fun _=>False) w).drew (fun _ _ hf=>hf)
theorem RDrvE.drew_ (h:RDrvE F w g pg d):RDrvE F w.drew g pg d:=h.only (Only.refl (fun _=>False) w).drew (fun _ _ hf=>hf)
theorem RDrv.setWait (h:RDrv F w g pg lv lvs bv bvs d) (n:Nat):RDrv F (w.setCell ⟨g,3,none⟩ (.int .i64 n)) g pg lv lvs bv bvs { d with wait:=n}:=
 ⟨h.row.set 3 _,h.pow.far (Ne.symm h.ne) _,h.fg,h.fp,fun k hk=>by simpa [World.setCell] using h.lt k hk,h.l.far h.row (by decide) (by decide) _ _,h.b.far h.row (by decide) (by decide) _ _,h.sep⟩
theorem RDrv.setHas (h:RDrv F w g pg lv lvs bv bvs d) (b:Bool):RDrv F (w.setCell ⟨g,4,none⟩ (.bool b)) g pg lv lvs bv bvs { d with has:=b}:=
 ⟨h.row.set 4 _,h.pow.far (Ne.symm h.ne) _,h.fg,h.fp,fun k hk=>by simpa [World.setCell] using h.lt k hk,h.l.far h.row (by decide) (by decide) _ _,h.b.far h.row (by decide) (by decide) _ _,h.sep⟩
theorem RDrv.setB (h:RDrv F w g pg lv lvs bv bvs d) {bv':Value} {bvs':List Value} {B':List (List Byte)} (hl:Lst F w bv' bvs' B') (hs:∀ k,lv.ownBlock=some k→bv'.ownBlock≠some k):
  RDrv F (w.setCell ⟨g,5,none⟩ bv') g pg lv lvs bv' bvs' { d with B:=B'}:=
 ⟨h.row.set 5 bv',h.pow.far (Ne.symm h.ne) _,h.fg,h.fp,fun k hk=>by simpa [World.setCell] using h.lt k hk,h.l.far h.row (by decide) (by decide) _ _,hl.far h.row (by decide) (by decide) _ _,hs⟩
theorem RDrv.noB (h:RDrv F w g pg lv lvs bv bvs d):RDrv F (w.setCell ⟨g,5,none⟩ (.slice none 0 0)) g pg lv lvs (.slice none 0 0) [] { d with B:= []}:=h.setB (Lst.nil_ F w) (fun k _ e=>by cases e)
theorem RDrv.power (h:RDrv F w g pg lv lvs bv bvs d) {s':Pw} (hr:Row w' pg 79 (pw s')) (hg:w.grownBy w' (some pg)):RDrv F w' g pg lv lvs bv bvs { d with s:=s'}:=by
 have ho:Only (fun k=>k=pg) w w':=Only.of_grown hg (fun k e=>by injection e with e;exact e.symm);have fl:∀ {v:Value} {vs:List Value} {ls:List (List Byte)},Lst F w v vs ls→Lst F w' v vs ls:=fun hl=>
  ⟨hl.own.only ho (fun k hk e=>Zz10 hl.own.own h.pow (by decide) k hk e) (fun y hy k hk e=>by
   have hll:=hl.len;obtain ⟨j,hj,rfl⟩:=List.getElem_of_mem hy;have:=hl.own.at_ j (by omega)
   rw [ZgD,ZgE hj] at this;exact Zz10 this h.pow (by decide) k hk e),hl.iv,hl.is⟩
 exact ⟨h.row.only ho h.ne,hr,h.fg,h.fp,fun k hk=>Nat.lt_of_lt_of_le (h.lt k hk) hg.size,fl h.l,fl h.b,h.sep⟩
end
theorem Zzgi (n pg:Nat) (s:Pw) (w:World) (hn:1≤n) (hn2:n≤512) (hp:Row w pg 79 (pw s)):
  Calls Tryz.prog 37 #[.int .i64 n,.pointer (some ⟨pg,0,none⟩)] w fun e w'=>∃ g,e= .returned (.pointer (some ⟨g,0,none⟩))∧w.heap.size≤g∧RDrvE (fun k=>k=g∨k=pg) w' g pg (Dr.new s n)∧Below w.heap.size w w':=by
 have hr:=Row.new w 56 #[.int .i64 n,.pointer (some ⟨pg,0,none⟩),.slice none 0 0,.int .i64 0,.bool false,.slice none 0 0,.bool false];have hpl:=hp.lt;go_enter Tryz.func37,Tryz.ntmps37;go_wp2_with fail;go_ret
 refine ⟨w.heap.size,rfl,ZnR _,⟨.slice none 0 0, [],.slice none 0 0, [],hr,hp.alloc _,.inl rfl,.inr rfl,fun k hk=> ?_,Lst.nil_ _ _,Lst.nil_ _ _,fun k e=>(by cases e)⟩,(Below.refl _ _).alloc (ZnR _) _⟩;rcases hk with rfl | rfl <;> simp <;> omega
theorem Zzdh (F:Nat→Prop) (g pg:Nat) (d:Dr) (m:Nat) (w:World) (h:RDrvE F w g pg d) (hok:DOk m d) (hm:m≤1000000):
  Calls Tryz.prog 41 #[.pointer (some ⟨g,0,none⟩)] w fun e w'=>e= .returned (.int .i64 d.sync.2)∧RDrvE F w' g pg d.sync.1∧Only F w w':=by
 obtain ⟨lv,lvs,bv,bvs,h⟩:=h;have c1:=h.row.cell 1;have e1:(rdRow pg d lv bv)[1]? =some (.pointer (some ⟨pg,0,none⟩)):=rfl;rw [e1] at c1;clear e1;have f1:=h.row.frozen 1;have c6:=h.row.cell 6;have e6:(rdRow pg d lv bv)[6]? =some (.bool d.lost):=rfl;rw [e6] at c6;clear e6;have f6:=h.row.frozen 6;obtain ⟨S,hS⟩:∃ S,d.sync=S:=⟨_,rfl⟩;rw [hS];have HS:=hid hS;clear hS;have hl:=hok.left;have ho1:=hok.offs.1;have ho2:=hok.offs.2;cases hlo:d.lost with
 | true=>
  rw [hlo] at c6;have hs:S=(d,5):=by rw [← HS.out];unfold Dr.sync;rw [hlo];rfl
  subst hs;go_enter Tryz.func41,Tryz.ntmps41;go_wp2_with fail;go_ret
  exact ⟨rfl,⟨_,_,_,_,h⟩,Only.refl _ _⟩
 | false=>
  rw [hlo] at c6;have HLO:=hid hlo;clear hlo;go_enter Tryz.func41,Tryz.ntmps41;go_wp2_with fail;refine (Zz8u pg d.s w h.pow (fun _=>hl) ⟨ho1,by omega⟩).mono ?_;rintro e w1 ⟨rfl,hp1,hg1⟩;have h1:=h.power hp1 hg1;have o1:Only F w w1:=Only.of_grown hg1 (fun k e=>by injection e with e;rw [← e];exact h.fp);cases hgo:d.s.goes with
  | false=>
   have hs:S=({ d with s:=d.s.step},14):=by rw [← HS.out];unfold Dr.sync;rw [HLO.out,hgo];rfl
   subst hs;clear hgo;go_wp2_with fail;go_ret
   exact ⟨rfl,⟨_,_,_,_,h1⟩,o1⟩
  | true=>
   have hs:S=({ d with wait:=0,s:=d.s.step}.went,0):=by rw [← HS.out];unfold Dr.sync;rw [HLO.out,hgo];rfl
   subst hs;have c3:=h1.row.cell 3;have e3:(rdRow pg { d with s:=d.s.step} lv bv)[3]? =some (.int .i64 d.wait):=rfl;rw [e3] at c3;clear e3;have f3:=h1.row.frozen 3;have c4:=h1.row.cell 4;have e4:(rdRow pg { d with s:=d.s.step} lv bv)[4]? =some (.bool d.has):=rfl;rw [e4] at c4;clear e4;have f4:=h1.row.frozen 4;have c5:=h1.row.cell 5;have e5:(rdRow pg { d with s:=d.s.step} lv bv)[5]? =some (bv):=rfl;rw [e5] at c5;clear e5;have f5:=h1.row.frozen 5;have HF:=hid ((h1.setWait 0).setHas false).noB;have HO:=hid (((o1.set h.fg 3 (.int .i64 (0:Nat))).set h.fg 4 (.bool false)).set h.fg 5 (.slice none 0 0));clear hgo;go_wp2_with fail;go_ret
   exact ⟨rfl,⟨_,_,_,_,HF.out⟩,HO.out⟩
end Go.Proofs.YtnknjeipfjdjoaaGreatDoor
