/- Light -/
import Derived.Deep.Strs
import Derived.Deep.Slices
import Derived.Test.YtnknjeipfjdjoaaGreatDoorBScanTells02
import Derived.Test.YtnknjeipfjdjoaaGreatDoorBScanTells05
import Derived.Test.YtnknjeipfjdjoaaGreatDoorBScanTells18
set_option maxHeartbeats 8000000
set_option maxRecDepth 20000
set_option linter.unusedSimpArgs false
set_option linter.unusedVariables false
set_option linter.unusedSectionVars false
namespace Go.Deep
open Go Go.ChangeShapes Go.WideShapes Go.ChangeAt Go.RowKit
section
variable {H:Type} {enc:TypeId×Value→H} {P:Program} {w:World} {base:Nat} {spare:Nat→Bool} {held:Bool}
theorem trod_struct6m {t:TypeId} {f0 f1 f2 f3 f4 f5:Field} {fuel:Nat} {cs:List Value} {x:DataW H×List MemPlace} (ht:P.underlying t=some (.struct #[f0,f1,f2,f3,f4,f5])) (h:DataW.trod enc P w base spare held fuel t cs=some x):
  ∃ y0 y1 y2 y3 y4 y5 n,cs.length=P.cellsOf t∧DataW.trod enc P w base spare held n f0.type ((cs.drop f0.offset).take (P.cellsOf f0.type))=some y0∧
   DataW.trod enc P w base spare held n f1.type ((cs.drop f1.offset).take (P.cellsOf f1.type))=some y1∧DataW.trod enc P w base spare held n f2.type ((cs.drop f2.offset).take (P.cellsOf f2.type))=some y2∧
   DataW.trod enc P w base spare held n f3.type ((cs.drop f3.offset).take (P.cellsOf f3.type))=some y3∧DataW.trod enc P w base spare held n f4.type ((cs.drop f4.offset).take (P.cellsOf f4.type))=some y4∧
   DataW.trod enc P w base spare held n f5.type ((cs.drop f5.offset).take (P.cellsOf f5.type))=some y5:=by
 obtain ⟨xs,n,_,rfl,hl,hlen,hf⟩:=DataW.trod_struct ht h;match xs,hlen with
 | [y0,y1,y2,y3,y4,y5],_=>exact ⟨y0,y1,y2,y3,y4,y5,n,hl,by simpa using hf 0 f0 rfl,by simpa using hf 1 f1 rfl,by simpa using hf 2 f2 rfl,by simpa using hf 3 f3 rfl,by simpa using hf 4 f4 rfl,by simpa using hf 5 f5 rfl⟩
theorem trod_struct4m {t:TypeId} {f0 f1 f2 f3:Field} {fuel:Nat} {cs:List Value} {x:DataW H×List MemPlace} (ht:P.underlying t=some (.struct #[f0,f1,f2,f3])) (h:DataW.trod enc P w base spare held fuel t cs=some x):
  ∃ y0 y1 y2 y3 n,cs.length=P.cellsOf t∧DataW.trod enc P w base spare held n f0.type ((cs.drop f0.offset).take (P.cellsOf f0.type))=some y0∧
   DataW.trod enc P w base spare held n f1.type ((cs.drop f1.offset).take (P.cellsOf f1.type))=some y1∧DataW.trod enc P w base spare held n f2.type ((cs.drop f2.offset).take (P.cellsOf f2.type))=some y2∧
   DataW.trod enc P w base spare held n f3.type ((cs.drop f3.offset).take (P.cellsOf f3.type))=some y3:=by
 obtain ⟨xs,n,_,rfl,hl,hlen,hf⟩:=DataW.trod_struct ht h;match xs,hlen with
 | [y0,y1,y2,y3],_=>exact ⟨y0,y1,y2,y3,n,hl,by simpa using hf 0 f0 rfl,by simpa using hf 1 f1 rfl,by simpa using hf 2 f2 rfl,by simpa using hf 3 f3 rfl⟩
end
end Go.Deep
namespace Go.Proofs.YtnknjeipfjdjoaaGreatDoor
open Go.ChangeShapes Go.WideShapes Go.ChangeAt Go.RowKit Wells
structure IsMani (w:World) (m:Mani) (Ad:Option Addr) (nd cd:Nat) (Ao:Option Addr) (no co:Nat) (ts:List Value):Prop where
 r:RM w w.heap.size m Ad nd cd Ao no co ts
 m64:M64 m
theorem Zzct:Tryz.prog.cellsOf 28=8:=by kernel_rfl
theorem Zz3z:Tryz.prog.cellsOf 3=1:=by kernel_rfl
theorem Zzaw:Tryz.prog.cellsOf 25=3:=by kernel_rfl
theorem Zz95:Tryz.prog.cellsOf 22=1:=by kernel_rfl
theorem Zze6:Tryz.prog.cellsOf 26=1:=by kernel_rfl
theorem Zzbg:Tryz.prog.cellsOf 61=4:=by kernel_rfl
theorem Zzbv:Tryz.prog.cellsOf 9=1:=by kernel_rfl
def EntIn (w:World) (a:Addr) (i:Nat) (x:Ent×Value):Prop:=
 (∀ j,j < 4→w.cell? (a.add (i*4+j))=(x.1.cells x.2)[j]?)∧(i64 x.1.obj∧i64 x.1.len∧∀ z∈x.1.tries,i64 z)∧
 ∃ A' c,x.2= .slice A' x.1.tries.length c∧x.1.tries.length≤c∧c≤9223372036854775807∧Sl w w.heap.size 1 A' x.1.tries.length (x.1.tries.map iv)
instance:Inhabited (Ent×Value):=⟨(default,undef)⟩
theorem Zzhe {H:Type} {enc:TypeId×Value→H} {w:World} {base:Nat} {sp:Nat→Bool} {held:Bool} {a:Addr} {i n:Nat} {cs:List Value} {x:DataW H×List MemPlace} (hc:w.cells? base (a.add (i*4)) 4=some cs) (h:DataW.trod enc Tryz.prog w base sp held n 61 cs=some x):∃ y,EntIn w a i y:=by
 obtain ⟨_,hlen,hcell⟩:=World.cells?_some hc;obtain ⟨y0,y1,y2,y3,n',_,t0,t1,t2,t3⟩:=Deep.trod_struct4m Tryz.underlying61 h;match cs,hlen with
 | [c0,c1,c2,c3],_=>
  simp only [Zz3z,Zz95,Zzbv,List.drop,List.take] at t0 t1 t2 t3;obtain ⟨s,hs,_,_⟩:=DataW.trod_string Tryz.underlying9 t0;obtain ⟨o,ho,_,wo⟩:=DataW.trod_int Tryz.underlying3 t1;obtain ⟨l,hl,_,wl⟩:=DataW.trod_int Tryz.underlying3 t2;simp only [List.cons.injEq,and_true] at hs ho hl;subst hs ho hl;obtain ⟨A,m,cc,rfl⟩:∃ A m cc,c3= .slice A m cc:=by
   rcases open_ints Tryz.underlying22 Tryz.underlying3 (by kernel_rfl) t3 with ⟨hcs,_⟩ | ⟨a,len,cap,zs,hcs,_⟩
   ·simp at hcs;exact ⟨_,_,_,hcs⟩
   ·simp at hcs;exact ⟨_,_,_,hcs⟩
  obtain ⟨zs,hz⟩:=Zz2b Tryz.underlying22 Tryz.underlying3 (by kernel_rfl) t3;have hzl:zs.length=m:=by have:=hz.sl.len;simpa using this
  refine ⟨(⟨bytesB s,o,l,zs⟩,.slice A m cc),fun j hj=> ?_,⟨bounds_i64 wo,bounds_i64 wl,hz.wf⟩,A,cc,?_,?_,hz.cap,?_⟩
  ·rw [← Deep.add_add,hcell j hj]
   show _=([.string (strB (bytesB s)),iv o,iv l,.slice A m cc]:List Value)[j]?;rw [Zz9q];rfl
  ·show Value.slice A m cc= .slice A zs.length cc
   rw [hzl]
  ·show zs.length≤cc
   rw [hzl];exact hz.le
  ·show Sl w w.heap.size 1 A zs.length (zs.map iv)
   rw [hzl];exact hz.sl
theorem Zzic {w:World} {B n:Nat} {A:Option Addr} {vs:List Value} (h:Sl w B 1 A (n*4) vs):Sl w B 4 A n vs:=⟨by have:=h.len;omega,fun h0=>h.at_ (by omega)⟩
theorem Zzac {H:Type} {enc:TypeId×Value→H} {w:World} {base b0:Nat} {held:Bool} {v:Value} {d:DataW H} {ps:List MemPlace}
  (hv:Value.okWide Tryz.prog w .any b0 28 v) (h:DataW.Trod enc Tryz.prog w base (fun _=>true) held 28 v d ps):
  ∃ (m:Mani) (Ad:Option Addr) (nd cd:Nat) (Ao:Option Addr) (no co:Nat) (ts:List Value),v=m.val (.slice Ad nd cd) (.slice Ao no co)∧IsMani w m Ad nd cd Ao no co ts:=by
 obtain ⟨cs,rfl,hcs⟩:=okWide_struct Tryz.underlying28 hv;rw [Zzct] at hcs;obtain ⟨fuel,h⟩:=h;obtain ⟨cl⟩:=cs;simp only [Value.cells] at h;obtain ⟨y0,y1,y2,y3,y4,y5,n,_,t0,t1,t2,t3,t4,t5⟩:=Deep.trod_struct6m Tryz.underlying28 h;match cl,hcs with
 | [c0,c1,c2,c3,c4,c5,c6,c7],_=>
  simp only [Zz3z,Zzaw,Zz95,Zze6,List.drop,List.take] at t0 t1 t2 t3 t4 t5;obtain ⟨x0,x1,x2,n3,_,_,u0,u1,u2⟩:=Deep.trod_struct3 Tryz.underlying25 t2;simp only [Zz3z,List.drop,List.take] at u0 u1 u2;obtain ⟨a0,ha0,_,wa0⟩:=DataW.trod_int Tryz.underlying3 t0;obtain ⟨a1,ha1,_,wa1⟩:=DataW.trod_int Tryz.underlying3 t1;obtain ⟨a2,ha2,_,wa2⟩:=DataW.trod_int Tryz.underlying3 u0;obtain ⟨a3,ha3,_,wa3⟩:=DataW.trod_int Tryz.underlying3 u1;obtain ⟨a4,ha4,_,wa4⟩:=DataW.trod_int Tryz.underlying3 u2;obtain ⟨a5,ha5,_,wa5⟩:=DataW.trod_int Tryz.underlying3 t3;simp only [List.cons.injEq,and_true] at ha0 ha1 ha2 ha3 ha4 ha5;subst ha0 ha1 ha2 ha3 ha4 ha5;obtain ⟨Ad,nd,cd,rfl⟩:∃ A m cc,c6= .slice A m cc:=by
   rcases open_ints Tryz.underlying22 Tryz.underlying3 (by kernel_rfl) t4 with ⟨hcs,_⟩ | ⟨a,len,cap,zs,hcs,_⟩
   ·simp at hcs;exact ⟨_,_,_,hcs⟩
   ·simp at hcs;exact ⟨_,_,_,hcs⟩
  obtain ⟨ds,hds⟩:=Zz2b Tryz.underlying22 Tryz.underlying3 (by kernel_rfl) t4;have hdl:ds.length=nd:=by have:=hds.sl.len;simpa using this
  rcases Deep.open_slice Tryz.underlying26 t5 with ⟨hcs,_⟩ | ⟨a,no,co,m,n5,D,Pl,hcs,_,hle,hcap,hm,_,hx⟩
  ·simp at hcs
   subst hcs;exact ⟨⟨a0,a1,⟨a2,a3,a4⟩,a5,ds, []⟩,Ad,nd,cd,none,0,0, [],rfl,⟨hds.sl,hdl,⟨hds.le,hds.cap⟩,⟨Sl.nil_,rfl,rfl,fun i hi=>absurd hi (by omega)⟩,by omega⟩,⟨bounds_i64 wa0,bounds_i64 wa1,bounds_i64 wa2,bounds_i64 wa3,bounds_i64 wa4,bounds_i64 wa5,hds.wf,fun e he=>by cases he⟩⟩
  ·simp at hcs
   subst hcs;unfold maxLen at hcap;rw [Zzbg] at hx;have hmm:no≤m:=by rw [hm];split <;> omega
   obtain ⟨f,hf⟩:=Deep.choose_lt (α:=Ent×Value) (n:=no) (p:=EntIn w a) (fun i hi=>by
    obtain ⟨cs',h1,h2⟩:=hx i (by omega);exact Zzhe h1 h2)
   have hel:((List.range no).map fun i=>(f i).1).length=no:=by simp
   have htl:((List.range no).map fun i=>(f i).2).length=no:=by simp
   have hge:∀ i,i < no→((List.range no).map fun i=>(f i).1).getD i default=(f i).1:=fun i hi=>by simp [ZgD,hi]
   have hgt:∀ i,i < no→((List.range no).map fun i=>(f i).2).getD i undef=(f i).2:=fun i hi=>by simp [ZgD,hi]
   refine ⟨⟨a0,a1,⟨a2,a3,a4⟩,a5,ds,(List.range no).map fun i=>(f i).1⟩,Ad,nd,cd,some a,no,co,(List.range no).map fun i=>(f i).2,rfl,⟨hds.sl,hdl,⟨hds.le,hds.cap⟩,⟨?_,hel,htl,fun i hi=> ?_⟩,by omega⟩,⟨bounds_i64 wa0,bounds_i64 wa1,bounds_i64 wa2,bounds_i64 wa3,bounds_i64 wa4,bounds_i64 wa5,hds.wf,fun e he=> ?_⟩⟩
   ·refine Zzic (Zz2a (by rw [Zz8g _ _ (by rw [hel,htl]),hel]) fun q hq=> ?_)
    obtain ⟨i,j,hj,rfl⟩:∃ i j,j < 4∧q=i*4+j:=⟨q / 4,q % 4,by omega,by omega⟩;have hi:i < no:=by omega
    rw [Zz50 _ _ i (by rw [hel,htl]) (by rw [hel];exact hi) j hj,hge i hi,hgt i hi];exact (hf i hi).1 j hj
   ·show ∃ A' c,((List.range no).map fun i=>(f i).2).getD i undef= .slice A' (((List.range no).map fun i=>(f i).1).getD i default).tries.length c∧(((List.range no).map fun i=>(f i).1).getD i default).tries.length≤c∧c≤9223372036854775807∧Sl w w.heap.size 1 A' (((List.range no).map fun i=>(f i).1).getD i default).tries.length ((((List.range no).map fun i=>(f i).1).getD i default).tries.map iv)
    rw [hge i hi,hgt i hi];exact (hf i hi).2.2
   ·obtain ⟨i,hi,rfl⟩:=List.mem_map.1 he
    exact (hf i (List.mem_range.1 hi)).2.1
end Go.Proofs.YtnknjeipfjdjoaaGreatDoor
namespace Go.Proofs.YtnknjeipfjdjoaaGreatDoor
open Go.RowKit Wells
structure LightM (m:Mani):Prop where
 dl:m.drives.length≤70
 ol:m.objs.length≤16
 nm:∀ e∈m.objs,e.name.length≤20
 tr:∀ e∈m.objs,e.tries.length≤20
def LightR (m:Mani) (w:World) (e:Ending) (w':World):Prop:=∃ b,e= .returned (.bool b)∧(b=true→LightM m)∧Below w.heap.size w w'
theorem Zzea (m:Mani) (B:Nat) (Ad Ao:Option Addr) (nd cd no co:Nat) (ts:List Value) (w:World) (h:RM w B m Ad nd cd Ao no co ts) (hB:B≤w.heap.size):
  Calls Tryz.prog 5 #[m.val (.slice Ad nd cd) (.slice Ao no co)] w (LightR m w):=by
 have HR:=hid h;have hdc:=h.dc;have hoc:=h.oc;have hx0:=Row.new w 28 #[.int .i64 m.seq,.int .i64 m.next,.int .i64 m.P.K,.int .i64 m.P.H,.int .i64 m.P.S,.int .i64 m.extra,.slice Ad nd cd,.slice Ao no co];have hb1:Below w.heap.size w (w.alloc (.cells #[.int .i64 m.seq,.int .i64 m.next,.int .i64 m.P.K,.int .i64 m.P.H,.int .i64 m.P.S,.int .i64 m.extra,.slice Ad nd cd,.slice Ao no co] 28)):=(Below.refl _ _).alloc (ZnR _) _;have HB1:=hid hb1;have x6:=hx0.cell 6;have x7:=hx0.cell 7;simp only [ZgS,ZgZ] at x6 x7;clear hx0 h hb1;unfold Mani.val;go_enter Tryz.func5,Tryz.ntmps5;by_cases h1:(70:Int) < (nd:Int)
 ·go_wp2_with fail
  go_ret
  exact ⟨false,rfl,(fun h=>by cases h),HB1.out⟩
 by_cases h2:(16:Int) < (no:Int)
 ·go_wp2_with fail
  go_ret
  exact ⟨false,rfl,(fun h=>by cases h),HB1.out⟩
 go_wp2_with fail;generalize w.alloc (.cells #[.int .i64 m.seq,.int .i64 m.next,.int .i64 m.P.K,.int .i64 m.P.H,.int .i64 m.P.S,.int .i64 m.extra,.slice Ad nd cd,.slice Ao no co] 28)=w2 at*;clear x6 x7;go_loopw [18] (fun i wr=>∃ k:Nat,k≤no∧i= .int .i64 (k:Int)∧(∀ j,j < k→(m.objs.getD j default).name.length≤20∧(m.objs.getD j default).tries.length≤20)∧Below w.heap.size w wr) (fun i _=>no - (intOf i).toNat)
 case atStart=>exact ⟨0,Nat.zero_le _,rfl,(fun j hj=>absurd hj (by omega)),HB1.out⟩
 case round=>
  obtain ⟨k,hk,rfl,hall,hbw⟩:=hrel;have HALL:=hid hall;clear hall HB1;by_cases hlt:k < no
  ·obtain ⟨bO,oO,At,ct,rfl,hbO,e0,e1,e2,e3,htc,htm,hst⟩:=((HR.out.below (hbw.mono hB)).mono (ZnT hB hbw.size)).o.get hlt
   clear hst;have hsz:=Zz1t (m.objs.getD k default).name;obtain ⟨ee,hee⟩:∃ e,m.objs.getD k default=e:=⟨_,rfl⟩;rw [hee] at e0 e1 e2 e3 hsz htc;have HEE:=hid hee;have hr5:=Row.new wr 61 #[.string (strB ee.name),.int .i64 ee.obj,.int .i64 ee.len,.slice At ee.tries.length ct];have hb5:=hbw.alloc hbw.size (.cells #[.string (strB ee.name),.int .i64 ee.obj,.int .i64 ee.len,.slice At ee.tries.length ct] 61);have y0:=hr5.cell 0;have y3:=hr5.cell 3;simp only [ZgS,ZgZ] at y0 y3;have HB5:=hid hb5;clear hee hr5 hb5;by_cases h3:(20:Int) < (ee.name.length:Int)
   ·go_wp2_with fail
    go_ret
    exact ⟨false,rfl,(fun h=>by cases h),HB5.out⟩
   by_cases h4:(20:Int) < (ee.tries.length:Int)
   ·go_wp2_with fail
    go_ret
    exact ⟨false,rfl,(fun h=>by cases h),HB5.out⟩
   have hall2:∀ j,j < k+1→(m.objs.getD j default).name.length≤20∧(m.objs.getD j default).tries.length≤20:=fun j hj=>by
    by_cases hjk:j < k
    ·exact HALL.out j hjk
    ·obtain rfl:j=k:=by omega
     rw [HEE.out];omega
   have HALL2:=hid hall2;clear hall2;go_wp2_with fail;go_roundw
   case rel=>exact ⟨k+1,by omega,by go_num,HALL2.out,HB5.out⟩
   case measure=>simp [intOf];omega
  ·go_wp2_with fail
   go_ret
   refine ⟨true,rfl,(fun _=>⟨by rw [HR.out.dl];omega,by rw [HR.out.o.len];omega,fun e he=> ?_,fun e he=> ?_⟩),hbw⟩
   ·obtain ⟨j,hj,rfl⟩:=List.mem_iff_getElem.1 he
    have h3:=HALL.out j (by rw [HR.out.o.len] at hj;omega);rw [show m.objs.getD j default=m.objs[j] by simp [hj]] at h3;exact h3.1
   ·obtain ⟨j,hj,rfl⟩:=List.mem_iff_getElem.1 he
    have h3:=HALL.out j (by rw [HR.out.o.len] at hj;omega);rw [show m.objs.getD j default=m.objs[j] by simp [hj]] at h3;exact h3.2
end Go.Proofs.YtnknjeipfjdjoaaGreatDoor
