/- OMs Pages -/
import Derived.Test.YtnknjeipfjdjoaaGreatDoorBScanTells23
import Derived.Test.YtnknjeipfjdjoaaGreatDoorBScanTells31
set_option maxHeartbeats 8000000
set_option maxRecDepth 20000
set_option linter.unusedSimpArgs false
set_option linter.unusedVariables false
set_option linter.unusedSectionVars false
namespace Wells
open Go Go.RowKit Go.Sort Go.Proofs Go.Lib
structure MD where
 m:Mani
 Ad:Option Addr
 nd:Nat
 cd:Nat
 Ao:Option Addr
 no:Nat
 co:Nat
 ts:List Value
instance:Inhabited MD:=⟨⟨Mani.zero,none,0,0,none,0,0, []⟩⟩
def MD.v (x:MD):Value:=x.m.val (.slice x.Ad x.nd x.cd) (.slice x.Ao x.no x.co)
def encM (x:MD):List Value:= [.int .i64 x.m.seq,.int .i64 x.m.next,.int .i64 x.m.P.K,.int .i64 x.m.P.H,.int .i64 x.m.P.S,.int .i64 x.m.extra,.slice x.Ad x.nd x.cd,.slice x.Ao x.no x.co]
theorem Zz1h (x:MD):(encM x).length=8:=rfl
theorem Zz46 (x:MD):∀ v∈encM x,v.oneCell'=true:=by
 intro v hv;simp only [encM,List.mem_cons,List.not_mem_nil,or_false] at hv;rcases hv with rfl | rfl | rfl | rfl | rfl | rfl | rfl | rfl <;> rfl
theorem Zz5m (xs:List MD):∀ v∈xs.flatMap encM,v.oneCell'=true:=by
 intro v hv;obtain ⟨x,_,hx⟩:=List.mem_flatMap.1 hv;exact Zz46 x v hx
def ltMD (a b:MD):Bool:=ltM a.m b.m
def cfM (a b:MD):Int:=cmpI b.m.seq a.m.seq
theorem Zzii (a b:MD):decide (cfM a b < 0)=ltMD a b:=by
 unfold cfM ltMD ltM cmpI;congr 1
 apply propext
 constructor
 ·intro h
  repeat' split at h
  all_goals omega
 ·intro h
  repeat' split
  all_goals omega
theorem Zzfh:(fun x y=>decide (cfM x y < 0))=ltMD:=by funext a b;exact Zzii a b
theorem Zzg1:SOrd ltMD:=⟨ltM_ord.asym,ltM_ord.tr,ltM_ord.tr',ltM_ord.le⟩
theorem Zz99:∀ (l:List MD) (i j:Nat),i < l.length→j < 8→(l.flatMap encM)[i*8+j]? =(encM l[i]!)[j]?
 | [],i,_,h,_=>absurd h (by simp)
 | x::l,0,j,_,hj=>by
  rw [List.flatMap_cons,List.getElem?_append_left (by rw [Zz1h];omega)];simp
 | x::l,i+1,j,hi,hj=>by
  rw [List.flatMap_cons,List.getElem?_append_right (by rw [Zz1h];omega),Zz1h,show (i+1)*8+j - 8=i*8+j by omega,Zz99 l i j (by simpa using hi) hj];simp
end Wells
namespace Go.Proofs.YtnknjeipfjdjoaaGreatDoor
open Go.RowKit Wells Go.Sort Go.Lib
def OMD (base:Nat) (w:World) (x:MD):Prop:=OM base w x.m x.Ad x.nd x.cd x.Ao x.no x.co x.ts
structure OMs (base:Nat) (w:World) (v:Value) (xs:List MD):Prop where
 own:w.ownsRow base 28 8 v xs.length (xs.flatMap encM)
 at_:∀ x∈xs,OMD base w x
theorem OM.grownT {base base':Nat} {w w':World} {m:Mani} {Ad Ao:Option Addr} {nd cd no co size n:Nat} {ts:List Value} {t:TypeId} {u:Value} {xs:List Value} (h:OM base w m Ad nd cd Ao no co ts) (ho:w.ownsRow base' t size u n xs) (hg:w.grownBy w' u.ownBlock) (h1:61≠t) (h2:3≠t):OM base w' m Ad nd cd Ao no co ts:=
 ⟨h.d.kept hg (Zz0i h.d ho h2),h.dl,⟨h.o.own.kept hg (Zz0i h.o.own ho h1),h.o.tl,fun i hi=>by
  obtain ⟨A,c,e,h3⟩:=h.o.at_ i hi;exact ⟨A,c,e,h3.kept hg (Zz0i h3 ho h2)⟩⟩,h.ol⟩
theorem OMs.nil_ (base:Nat) (w:World):OMs base w (.slice none 0 0) []:=⟨World.ownsRow_nil _ _ _ _,fun x hx=>by cases hx⟩
theorem OMs.below {base:Nat} {w w':World} {v:Value} {xs:List MD} (h:OMs base w v xs) (hb:Below w.heap.size w w'):OMs base w' v xs:=
 ⟨h.own.kept (Zz02 hb none) (by cases v.ownBlock <;> simp),fun x hx=>(h.at_ x hx).below hb⟩
theorem OMs.push {base:Nat} {w w':World} {v v':Value} {xs:List MD} {x:MD} (h:OMs base w v xs) (hx:OMD base w x) (ho:w'.ownsRow base 28 8 v' (xs.length+1) (xs.flatMap encM++encM x)) (hg:w.grownBy w' v.ownBlock):OMs base w' v' (xs++ [x]):=by
 refine ⟨by simpa using ho,fun y hy=> ?_⟩;rcases List.mem_append.1 hy with hy | hy
 ·exact OM.grownT (h.at_ y hy) h.own hg (by decide) (by decide)
 ·simp only [List.mem_singleton] at hy
  subst hy;exact OM.grownT hx h.own hg (by decide) (by decide)
theorem manifestT:(∃ d,Tryz.prog.underlying 28=some d∧d.isRow=true)∧(Tryz.prog.info? 28).map (·.size)=some 8:=⟨⟨_,rfl,rfl⟩,rfl⟩
theorem infoMn:(Tryz.prog.info? 28).map (fun i=>(i.zero,i.size,i.bytes))=some (some (.agg #[.int .i64 0,.int .i64 0,.int .i64 0,.int .i64 0,.int .i64 0,.int .i64 0,.slice none 0 0,.slice none 0 0]),8,96):=by kernel_rfl
theorem Zz9t (a b:MD) (w:World):Calls Tryz.prog 104 #[.agg (encM a).toArray,.agg (encM b).toArray] w fun e w'=>e= .returned (.int .i64 (cfM a b))∧∃ n os,w'=grow (w.drewN n) os:=by
 obtain ⟨c,hc⟩:∃ c,cfM a b=c:=⟨_,rfl⟩;have HC:=hid (show cmpI b.m.seq a.m.seq=c from hc);rw [hc];clear hc;unfold encM;go_enter Tryz.func104,Tryz.ntmps104;go_wp2_with fail;refine (Zz5q b.m.seq a.m.seq c HC.out _).mono ?_;rintro e w' ⟨rfl,rfl⟩;go_wp2_with fail;go_ret
 refine ⟨rfl,0,#[.cells (encM a).toArray 28,.cells (encM b).toArray 28],?_⟩;rw [alloc_eq_grow,alloc_eq_grow];rw [grow_grow];rfl
theorem Zz5j (args:Array Value) (w:World):(callFunc 104 args).run Tryz.prog w= .ok (.enter 104 args) w:=rfl
theorem Zz7l (blk off N:Nat) (w:World):CmpLays Tryz.prog 104 #[] encM 8 cfM blk off N w:=by
 intro m os dk _ x y;refine (Zz9t x y _).mono ?_;rintro e w' ⟨rfl,n,os',rfl⟩;exact ⟨rfl,n,os',rfl⟩
theorem Zz7v (base:Nat) (xs:List MD) (A:Option Addr) (n c:Nat) (w:World) (h:OMs base w (.slice A n c) xs) (hn:xs.length=n) (hN:n≤1048576):
  Calls Tryz.prog 103 #[.slice A n c,.func (.func 104) #[] #[]] w fun e w'=>e= .returned (.tuple #[])∧OMs base w' (.slice A n c) (ssort ltMD xs)∧w.grownBy w' (Value.slice A n c).ownBlock:=by
 have ho:=h.own;rw [hn] at ho;cases A with
 | none=>
  have h0:n=0:=by
   rcases Zz7u ho with ⟨_,h0,_⟩ | ⟨_,h0,_⟩
   ·exact h0
   ·cases h0
  subst h0;have hx:xs= []:=List.eq_nil_of_length_eq_zero hn;subst hx;refine (Zz4e none c _ w).mono ?_;rintro e w' ⟨rfl,rfl⟩;exact ⟨rfl,h,World.grownBy.refl _ _⟩
 | some ad=>
  obtain ⟨g,cur,rfl,hb,hg,hnc,hcm,hcs,hs,R⟩:=SWL.start Zz1h Zz46 ho hn manifestT.1 manifestT.2;have hk:=Zz7k (cap:=c) (by rw [Zzfh];exact Zzg1) R hN Zz46 Zz5j (Zz7l g 0 n w) hs;refine hk.mono ?_;rintro e w' ⟨rfl,hs2⟩;rw [Zzfh] at hs2;obtain ⟨o2,g2⟩:=hs2.back Zz1h hg hb hcs (ZnR n) hnc hcm;have hl2:(ssort ltMD xs).length=n:=by rw [Zz09,hn]
  rw [ZtL (by omega)] at o2;refine ⟨rfl,⟨by rw [hl2];exact o2,fun x hx=> ?_⟩,g2⟩;exact OM.grownT (h.at_ x (Zz2d.1 hx)) ho g2 (by decide) (by decide)
end Go.Proofs.YtnknjeipfjdjoaaGreatDoor
namespace Wells
open Go Go.RowKit
structure PD where
 p:Pg
 d:Value
 c:Value
instance:Inhabited PD:=⟨⟨Pg.zero,.slice none 0 0,.slice none 0 0⟩⟩
def encP (x:PD):List Value:= [.int .i64 x.p.seq,.int .i64 x.p.at_,.int .i64 x.p.of_,x.d,x.c]
theorem Zz54 (x:PD):(encP x).length=5:=rfl
theorem Zz97:∀ (l:List PD) (i j:Nat),i < l.length→j < 5→(l.flatMap encP)[i*5+j]? =(encP l[i]!)[j]?
 | [],i,_,h,_=>absurd h (by simp)
 | x::l,0,j,_,hj=>by
  rw [List.flatMap_cons,List.getElem?_append_left (by rw [Zz54];omega)];simp
 | x::l,i+1,j,hi,hj=>by
  rw [List.flatMap_cons,List.getElem?_append_right (by rw [Zz54];omega),Zz54,show (i+1)*5+j - 5=i*5+j by omega,Zz97 l i j (by simpa using hi) hj];simp
end Wells
namespace Go.Proofs.YtnknjeipfjdjoaaGreatDoor
open Go.RowKit Wells
def PDR (w:World) (B:Nat) (x:PD):Prop:=RB w B x.d x.p.bears∧RB w B x.c x.p.cell
theorem PDR.below {w w':World} {B:Nat} {x:PD} (h:PDR w B x) (hb:Below B w w'):PDR w' B x:=⟨h.1.keep hb,h.2.keep hb⟩
theorem PDR.mono {w:World} {B B':Nat} {x:PD} (h:PDR w B x) (hb:B≤B'):PDR w B' x:=⟨h.1.mono hb,h.2.mono hb⟩
theorem PDR.one {w:World} {B:Nat} {x:PD} (h:PDR w B x):∀ v∈encP x,v.oneCell'=true:=by
 intro v hv;obtain ⟨⟨A,c,e,_⟩,⟨A2,c2,e2,_⟩⟩:=h;simp only [encP,List.mem_cons,List.not_mem_nil,or_false] at hv;rcases hv with rfl | rfl | rfl | rfl | rfl
 ·rfl
 ·rfl
 ·rfl
 ·rw [e];rfl
 ·rw [e2];rfl
structure RPs (w:World) (B:Nat) (A:Option Addr) (n:Nat) (xs:List PD):Prop where
 sl:Sl w B 5 A n (xs.flatMap encP)
 len:xs.length=n
 at_:∀ x∈xs,PDR w B x
section
variable {w w':World} {B B' n:Nat} {A:Option Addr} {xs:List PD}
theorem RPs.nil_ (w:World) (B:Nat):RPs w B none 0 []:=⟨Sl.nil_,rfl,fun x hx=>by cases hx⟩
theorem RPs.below (h:RPs w B A n xs) (hb:Below B w w'):RPs w' B A n xs:=⟨h.sl.below hb,h.len,fun x hx=>(h.at_ x hx).below hb⟩
theorem RPs.mono (h:RPs w B A n xs) (hb:B≤B'):RPs w B' A n xs:=⟨h.sl.mono hb,h.len,fun x hx=>(h.at_ x hx).mono hb⟩
theorem RPs.up (h:RPs w w.heap.size A n xs) (hb:Below w.heap.size w w'):RPs w' w'.heap.size A n xs:=(h.below hb).mono hb.size
theorem RPs.get (h:RPs w B A n xs) {i:Nat} (hi:i < n):
  ∃ b o,A=some ⟨b,o,none⟩∧b < B∧xs[i]! ∈xs∧xs[i]? =some xs[i]! ∧∀ j v,(encP xs[i]!)[j]? =some v→w.cell? ⟨b,o+i*5+j,none⟩=some v:=by
 obtain ⟨b,o,rfl,hb,hc⟩:=h.sl.at_ (by omega);have hn:=h.len;refine ⟨b,o,rfl,hb,?_,?_,fun j v hv=> ?_⟩
 ·rw [getElem!_pos xs i (by omega)];exact List.getElem_mem _
 ·rw [getElem!_pos xs i (by omega),ZgE]
 ·have hj:j < 5:=by have:=(List.getElem?_eq_some_iff.1 hv).1;rwa [Zz54] at this
  rw [Nat.add_assoc];exact hc _ _ (by rw [Zz97 xs i j (by omega) hj];exact hv)
end
theorem infoPg:(Tryz.prog.info? 128).map (fun i=>(i.zero,i.size,i.bytes))=some (some (.agg #[.int .i64 0,.int .i64 0,.int .i64 0,.slice none 0 0,.slice none 0 0]),5,72):=by kernel_rfl
theorem Zz7r {w:World} {g:Nat} {t:TypeId} {cs:List Value} {base:Nat} (h:Row w g t cs) (hl:cs.length=5) (hb:base≤g):w.ownsRow base t 5 (.slice (some ⟨g,0,none⟩) 1 1) 1 cs:=
 ⟨by omega,.inr ⟨g,1,cs.toArray,rfl,hb,h,ZnR _,by unfold maxLen;omega,by simp [hl],by simp;exact ZtL (by omega)⟩⟩
end Go.Proofs.YtnknjeipfjdjoaaGreatDoor
namespace Wells
open Go Go.RowKit
theorem Zz5g {P:Program} {w:World} {o:Oper} {a:Act} {K:Act→World→Prop} {Q:Exit→Act→World→Prop} (t e:TypeId) (x:Operand) (ho:o.op= .buildSlice t 1 #[(0,x)]) (v0 v1 v2 v3 v4:Value) (hx:a.eval x= .agg #[v0,v1,v2,v3,v4])
  (ie:TypeInfo) (z0 z1 z2 z3 z4:Value) (hu:P.underlying t=some (.slice e)) (hie:P.info? e=some ie) (hz:ie.zero=some (.agg #[z0,z1,z2,z3,z4])) (hs:ie.size=5)
  (h:∀ w' g,w.heap.size=g→Row w' g e [v0,v1,v2,v3,v4]→Below g w w'→w'.heap.size=g+1→K (a.put o.dst (.slice (some ⟨g,0,none⟩) 1 1)) w'):Oper.wp P o a w K Q:=by
 refine wp_buildSlice t e 1 _ ho #[v0,v1,v2,v3,v4] ie _ hu hie hz (by rw [hs];omega) (by rw [hs];omega) ?_ ?_
 ·rw [hs]
  simp [hx,Instr.fill,Value.cells]
  apply Array.ext'
  simp [Array.toList_range,List.range_succ]
 ·exact h _ _ rfl (Row.new w e #[v0,v1,v2,v3,v4]) ((Below.refl _ _).alloc (ZnR _) _) (by simp)
end Wells
