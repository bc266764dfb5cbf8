/- ORs Recs ScanCells Rises -/
import Derived.BigGuardPart
import Derived.Deep.DeepCutAuto
import Derived.Test.YtnknjeipfjdjoaaGreatDoorBScanTells10
import Derived.Test.YtnknjeipfjdjoaaGreatDoorBScanTells13
import Derived.Test.YtnknjeipfjdjoaaGreatDoorBScanTells17
import Derived.Test.YtnknjeipfjdjoaaGreatDoorBScanTells24
set_option maxHeartbeats 8000000
set_option maxRecDepth 20000
set_option linter.unusedSimpArgs false
set_option linter.unusedVariables false
namespace Wells
open Go Go.RowKit Go.Sort Go.Proofs Go.Lib
structure RD where
 r:Rec
 A:Option Addr
 n:Nat
 c:Nat
instance:Inhabited RD:=⟨⟨Rec.zero,none,0,0⟩⟩
def RD.dv (x:RD):Value:= .slice x.A x.n x.c
def encR (x:RD):List Value:= [.int .i64 x.r.O,.int .i64 x.r.B,.int .i64 x.r.I,.int .i64 x.r.P.K,.int .i64 x.r.P.H,.int .i64 x.r.P.S,.int .u32 (x.r.S.toNat:Int),x.dv]
theorem Zz15 (x:RD):(encR x).length=8:=rfl
theorem Zz2j (x:RD):∀ v∈encR x,v.oneCell'=true:=by
 intro v hv;simp only [encR,RD.dv,List.mem_cons,List.not_mem_nil,or_false] at hv;rcases hv with rfl | rfl | rfl | rfl | rfl | rfl | rfl | rfl <;> rfl
def ltD (a b:RD):Bool:=ltR a.r b.r
def cfD (a b:RD):Int:=ordI a.r b.r
theorem Zzig (a b:RD):decide (cfD a b < 0)=ltD a b:=Zzi6 _ _
theorem Zzfo:(fun x y=>decide (cfD x y < 0))=ltD:=by funext a b;exact Zzig a b
theorem Zzi5:SOrd ltD:=⟨ltR_ord.asym,ltR_ord.tr,ltR_ord.tr',ltR_ord.le⟩
def RD.zero:RD:=⟨Rec.zero,none,0,0⟩
end Wells
namespace Go.Proofs.YtnknjeipfjdjoaaGreatDoor
open Go.RowKit Wells Go.Sort Go.Lib
structure ORs (base:Nat) (w:World) (v:Value) (xs:List RD):Prop where
 own:w.ownsRow base 73 8 v xs.length (xs.flatMap encR)
 at_:∀ x∈xs,OB base w x.dv x.r.D
theorem ORs.nil_ (base:Nat) (w:World):ORs base w (.slice none 0 0) []:=⟨World.ownsRow_nil _ _ _ _,fun x hx=>by cases hx⟩
theorem ORs.below {base:Nat} {w w':World} {v:Value} {xs:List RD} (h:ORs base w v xs) (hb:Below w.heap.size w w'):ORs base w' v xs:=
 ⟨h.own.kept (Zz02 hb none) (by cases v.ownBlock <;> simp),fun x hx=>(h.at_ x hx).below hb⟩
theorem ORs.base {base base':Nat} {w:World} {v:Value} {xs:List RD} (h:ORs base w v xs) (hb:base'≤base):ORs base' w v xs:=⟨Zz0b h.own hb,fun x hx=>Zz0b (h.at_ x hx) hb⟩
theorem ORs.push {base:Nat} {w w':World} {v v':Value} {xs:List RD} {x:RD} (h:ORs base w v xs) (hx:OB base w x.dv x.r.D) (ho:w'.ownsRow base 73 8 v' (xs.length+1) (xs.flatMap encR++encR x)) (hg:w.grownBy w' v.ownBlock):ORs base w' v' (xs++ [x]):=by
 refine ⟨by simpa using ho,fun y hy=> ?_⟩;rcases List.mem_append.1 hy with hy | hy
 ·exact (h.at_ y hy).keep hg (Zz0i (h.at_ y hy) h.own (by decide))
 ·simp only [List.mem_singleton] at hy
  subst hy;exact hx.keep hg (Zz0i hx h.own (by decide))
theorem recordT:(∃ d,Tryz.prog.underlying 73=some d∧d.isRow=true)∧(Tryz.prog.info? 73).map (·.size)=some 8:=⟨⟨_,rfl,rfl⟩,rfl⟩
theorem Zz7j (args:Array Value) (w:World):(callFunc 47 args).run Tryz.prog w= .ok (.enter 47 args) w:=rfl
theorem Zzb5 (blk off N:Nat) (w:World):CmpLays Tryz.prog 47 #[] encR 8 cfD blk off N w:=by
 intro m os dk _ x y;refine (Zz94 x.r y.r x.dv y.dv _).mono ?_;rintro e w' ⟨rfl,n,os',rfl⟩;exact ⟨rfl,n,os',rfl⟩
theorem Zz9v (base:Nat) (xs:List RD) (A:Option Addr) (n c:Nat) (w:World) (h:ORs base w (.slice A n c) xs) (hn:xs.length=n) (hN:n≤1048576):
  Calls Tryz.prog 46 #[.slice A n c,.func (.func 47) #[] #[]] w fun e w'=>e= .returned (.tuple #[])∧ORs base w' (.slice A n c) (ssort ltD xs)∧w.grownBy w' (Value.slice A n c).ownBlock:=by
 have ho:=h.own;rw [hn] at ho;cases A with
 | none=>
  have h0:n=0:=by
   rcases Zz7u ho with ⟨_,h0,_⟩ | ⟨_,h0,_⟩
   ·exact h0
   ·cases h0
  subst h0;have hx:xs= []:=List.eq_nil_of_length_eq_zero hn;subst hx;refine (Zz58 none c _ w).mono ?_;rintro e w' ⟨rfl,rfl⟩;exact ⟨rfl,h,World.grownBy.refl _ _⟩
 | some ad=>
  obtain ⟨g,cur,rfl,hb,hg,hnc,hcm,hcs,hs,R⟩:=SWL.start Zz15 Zz2j ho hn recordT.1 recordT.2;have hk:=Zz77 (cap:=c) (by rw [Zzfo];exact Zzi5) R hN Zz2j Zz7j (Zzb5 g 0 n w) hs;refine hk.mono ?_;rintro e w' ⟨rfl,hs2⟩;rw [Zzfo] at hs2;obtain ⟨o2,g2⟩:=hs2.back Zz15 hg hb hcs (ZnR n) hnc hcm;have hl2:(ssort ltD xs).length=n:=by rw [Zz09,hn]
  rw [ZtL (by omega)] at o2;refine ⟨rfl,⟨by rw [hl2];exact o2,fun x hx=> ?_⟩,g2⟩;have hx':=h.at_ x (Zz2d.1 hx);exact hx'.keep g2 (Zz2i hx' hg (by decide))
theorem Zzdg (r q:Rec) (d e:Value) (w:World):Calls Tryz.prog 49 #[r.val d,q.val e] w fun en w'=>en= .returned (.bool (eqv ltR r q))∧∃ n os,w'=grow (w.drewN n) os:=by
 obtain ⟨b,hb⟩:∃ b,eqv ltR r q=b:=⟨_,rfl⟩;have hb2:(ordI r q==0)=b:=by rw [Zzht,hb]
 obtain ⟨A1,hA1⟩:∃ o:Obj,o= .cells #[.int .i64 r.O,.int .i64 r.B,.int .i64 r.I,.int .i64 r.P.K,.int .i64 r.P.H,.int .i64 r.P.S,.int .u32 (r.S.toNat:Int),d] 73:=⟨_,rfl⟩;obtain ⟨A2,hA2⟩:∃ o:Obj,o= .cells #[.int .i64 q.O,.int .i64 q.B,.int .i64 q.I,.int .i64 q.P.K,.int .i64 q.P.H,.int .i64 q.P.S,.int .u32 (q.S.toNat:Int),e] 73:=⟨_,rfl⟩;rw [hb];clear hb;unfold Rec.val;go_enter Tryz.func49,Tryz.ntmps49;go_wp2_with fail;refine (Zz94 r q d e _).mono ?_;rintro en w' ⟨rfl,n,os,rfl⟩;go_wp2_with fail;go_ret
 refine ⟨rfl,n,#[A1,A2]++os,?_⟩;rw [hA1,hA2,alloc_eq_grow,alloc_eq_grow];show grow (grow (grow (w.drewN n) _) _) os=_;rw [grow_grow,grow_grow,← Array.append_assoc];rfl
theorem Zz7a (args:Array Value) (w:World):(callFunc 49 args).run Tryz.prog w= .ok (.enter 49 args) w:=rfl
theorem Zzcd (w0:World) (blk off N:Nat):EqL Tryz.prog 49 encR ltD w0 blk off N:=by
 intro l W hs x y;refine (Zzdg x.r y.r x.dv y.dv W).mono ?_;rintro e w' ⟨rfl,n,os,rfl⟩;exact ⟨rfl,hs.grown n os⟩
theorem Zza4 (w:World):(zeroValue 73).run Tryz.prog w= .ok (.agg (encR RD.zero).toArray) w:=rfl
def RcptR (base:Nat) (xs:List RD) (w:World) (v:Value) (e:Ending) (w':World):Prop:=
 ∃ (A':Option Addr) (n' c':Nat),e= .returned (.slice A' n' c')∧n'=(cpt ltD xs).length∧ORs base w' (.slice A' n' c') (cpt ltD xs)∧w.grownBy w' v.ownBlock
theorem Zzb6 (base:Nat) (xs:List RD) (A:Option Addr) (n c:Nat) (w:World) (h:ORs base w (.slice A n c) xs) (hn:xs.length=n) (hN:n≤1048576):
  Calls Tryz.prog 48 #[.slice A n c,.func (.func 49) #[] #[]] w (RcptR base xs w (.slice A n c)):=by
 have ho:=h.own;rw [hn] at ho;by_cases h0:n=0
 ·subst h0
  have hx:xs= []:=List.eq_nil_of_length_eq_zero hn;subst hx;refine (Zza0 A c _ w).mono ?_;rintro e w' ⟨rfl,rfl⟩;exact ⟨A,0,c,rfl,rfl,h,World.grownBy.refl _ _⟩
 cases A with
 | none=>
  rcases Zz7u ho with ⟨_,h1,_⟩ | ⟨_,h1,_⟩
  ·exact absurd h1 h0
  ·cases h1
 | some ad=>
  obtain ⟨g,cur,rfl,hb,hg,hnc,hcm,hcs,hs,R⟩:=SWL.start Zz15 Zz2j ho hn recordT.1 recordT.2;have hk:=Zzdj (cap:=c) R hN Zz2j Zz7a (Zzcd w g 0 n) RD.zero _ Zza4 rfl (by omega) hnc (by unfold maxLen at hcm;omega) hs;refine hk.mono ?_;rintro e w' ⟨l',n',rfl,hs2,h1,h2,h3⟩;obtain ⟨o2,g2⟩:=hs2.back Zz15 hg hb hcs h3 hnc hcm;rw [h2] at o2;refine ⟨_,n',c,rfl,h1,⟨by rw [← h1];exact o2,fun x hx=> ?_⟩,g2⟩;have hx':=h.at_ x (Zzfg hx);exact hx'.keep g2 (Zz2i hx' hg (by decide))
end Go.Proofs.YtnknjeipfjdjoaaGreatDoor
namespace Wells
open Go Go.RowKit
def cntL (m:Mani) (l:List (List Byte)):List Rec:=(l.filterMap takeR).filter (countsM m)
def recsL (m:Mani) (l:List (List Byte)):List Rec:=cpt ltR (ssort ltR (cntL m l))
end Wells
namespace Go.Proofs.YtnknjeipfjdjoaaGreatDoor
open Go.RowKit Wells Go.Sort Go.Lib
theorem OBs.grown {base base':Nat} {w w':World} {v u:Value} {vs:List Value} {ls:List (List Byte)} {t:TypeId} {size n:Nat} {xs:List Value} (h:OBs base w v vs ls) (ho:w.ownsRow base' t size u n xs) (hg:w.grownBy w' u.ownBlock) (h1:33≠t) (h2:5≠t):OBs base w' v vs ls:=
 ⟨h.own.kept hg (Zz0i h.own ho h1),fun i hi=>(h.at_ i hi).keep hg (Zz0i (h.at_ i hi) ho h2)⟩
structure RecP (w0 w:World) (Al:Option Addr) (nl cl:Nat) (vs:List Value) (L:List (List Byte)) (vo:Value) (xs:List RD):Prop where
 l:OBs w0.heap.size w (.slice Al nl cl) vs L
 o:ORs w0.heap.size w vo xs
 be:Below w0.heap.size w0 w
theorem RecP.below {w0 w w':World} {Al:Option Addr} {nl cl:Nat} {vs:List Value} {L:List (List Byte)} {vo:Value} {xs:List RD} (h:RecP w0 w Al nl cl vs L vo xs) (hb:Below w.heap.size w w'):RecP w0 w' Al nl cl vs L vo xs:=
 ⟨h.l.below hb,h.o.below hb,h.be.trans (hb.mono h.be.size)⟩
def RecJ1 (w0:World) (dp mv:Value) (gm:Nat) (m:Mani) (L:List (List Byte)) (a:Act) (w:World):Prop:=
 ∃ (k nl cl:Nat) (z:Int) (Al Ao:Option Addr) (co:Nat) (vs:List Value) (xs:List RD) (vo:Value),z=(k:Int) - 1∧(k≤nl∧nl=L.length∧nl≤cl∧cl≤9223372036854775807)∧vo= .slice Ao xs.length co∧RecP w0 w Al nl cl vs L vo xs∧Hid (xs.map RD.r=cntL m (L.take k))∧
 ∃ x2 x4 x8 x9 x10 x11 x12 x13 x14 x15 x16 x17 x18 x19 x20 x21 x22 x23 x24 x25 x26 x27 x28 x29 x30 x31 x32 x33 x34 x35 x36 x37 x38 x39:Value,a={ tmps:= #[dp,mv,x2,.pointer (some ⟨gm,0,none⟩),x4,.slice Al nl cl,vo,.int .i64 z,x8,x9,x10,x11,x12,x13,x14,x15,x16,x17,x18,x19,x20,x21,x22,x23,x24,x25,x26,x27,x28,x29,x30,x31,x32,x33,x34,x35,x36,x37,x38,x39],defers:= []}
def RecJ2 (w0:World) (dp mv:Value) (m:Mani) (L:List (List Byte)) (a:Act) (w:World):Prop:=
 ∃ (Ao:Option Addr) (co:Nat) (xs:List RD) (vo:Value),vo= .slice Ao xs.length co∧ORs w0.heap.size w vo xs∧Below w0.heap.size w0 w∧Hid (xs.map RD.r=cntL m L)∧
 ∃ x2 x3 x4 x5 x7 x8 x9 x10 x11 x12 x13 x14 x15 x16 x17 x18 x19 x20 x21 x22 x23 x24 x25 x26 x27 x28 x29 x30 x31 x32 x33 x34 x35 x36 x37 x38 x39:Value,a={ tmps:= #[dp,mv,x2,x3,x4,x5,vo,x7,x8,x9,x10,x11,x12,x13,x14,x15,x16,x17,x18,x19,x20,x21,x22,x23,x24,x25,x26,x27,x28,x29,x30,x31,x32,x33,x34,x35,x36,x37,x38,x39],defers:= []}
theorem Zz82 {m:Mani} {l:List (List Byte)} {c:List Byte} (h:takeR c=none):cntL m (l++ [c])=cntL m l:=by simp [cntL,h]
theorem Zz86 {m:Mani} {l:List (List Byte)} {c:List Byte} {r:Rec} (h:takeR c=some r):cntL m (l++ [c])=cntL m l++(if countsM m r then [r] else []):=by
 unfold cntL;rw [List.filterMap_append,List.filter_append];simp only [List.filterMap_cons,h,List.filterMap_nil,List.filter_cons,List.filter_nil]
theorem _root_.Wells.Row.sl8 {w:World} {g B:Nat} {t:TypeId} {cs:List Value} (h:Row w g t cs) (hl:cs.length=8) (hB:g < B):Sl w B 8 (some ⟨g,0,none⟩) 1 cs:=
 ⟨by omega,fun _=>⟨g,0,rfl,hB,fun j u hu=>by rw [Nat.zero_add,h.cell];exact hu⟩⟩
def RecsR (w:World) (rs:List Rec) (e:Ending) (w':World):Prop:=
 ∃ (A:Option Addr) (n c:Nat) (xs:List RD),e= .returned (.slice A n c)∧n=rs.length∧ORs w.heap.size w' (.slice A n c) xs∧xs.map RD.r=rs∧Below w.heap.size w w'
theorem Zz1r (m:Mani) (L:List (List Byte)):(cntL m L).length≤L.length:=by
 unfold cntL;exact ZnT (List.length_filter_le _ _) (List.length_filterMap_le _ _)
theorem infoRecS:(Tryz.prog.info? 73).map (fun i=>(i.zero,i.size,i.bytes))=some (some (.agg #[.int .i64 0,.int .i64 0,.int .i64 0,.int .i64 0,.int .i64 0,.int .i64 0,.int .u32 0,.slice none 0 0]),8,80):=by kernel_rfl
theorem Zz32 (F:Nat→Prop) (g pg:Nat) (d:Dr) (mk:Nat) (m:Mani) (B:Nat) (Ad Ao:Option Addr) (nd cd no co:Nat) (ts:List Value) (w:World) (h:DrvE F w g pg d) (hok:DOk mk d) (hm:RM w B m Ad nd cd Ao no co ts) (hB:B≤w.heap.size) (hno:no≤9223372036854775807):
  Calls Tryz.prog 14 #[.pointer (some ⟨g,0,none⟩),m.val (.slice Ad nd cd) (.slice Ao no co)] w (RecsR w (recsL m d.L)):=by
 have hb:Below w.heap.size w (w.alloc (.cells #[.int .i64 m.seq,.int .i64 m.next,.int .i64 m.P.K,.int .i64 m.P.H,.int .i64 m.P.S,.int .i64 m.extra,.slice Ad nd cd,.slice Ao no co] 28)):=(Below.refl _ _).alloc (ZnR _) _;have H1:=hid (h.new_ hb);have hx:=Row.new w 28 #[.int .i64 m.seq,.int .i64 m.next,.int .i64 m.P.K,.int .i64 m.P.H,.int .i64 m.P.S,.int .i64 m.extra,.slice Ad nd cd,.slice Ao no co];have HX:=hid hx;have HM:=hid (hm.below (hb.mono hB));have HBW:=hid hb;have hll:=hok.len;have hrm:=hok.room;have HC:=hid hok.cells;clear hb h hm hx;unfold Mani.val;go_enter Tryz.func14,Tryz.ntmps14;go_wp2_with fail
 generalize w.alloc (.cells #[.int .i64 m.seq,.int .i64 m.next,.int .i64 m.P.K,.int .i64 m.P.H,.int .i64 m.P.S,.int .i64 m.extra,.slice Ad nd cd,.slice Ao no co] 28)=w1 at*;obtain ⟨MV,hMV⟩:∃ v,v=Value.agg #[.int .i64 m.seq,.int .i64 m.next,.int .i64 m.P.K,.int .i64 m.P.H,.int .i64 m.P.S,.int .i64 m.extra,.slice Ad nd cd,.slice Ao no co]:=⟨_,rfl⟩;rw [← hMV];have HMV:=hid hMV;clear hMV;refine Zz7n 0 1 (RecJ1 w1 (.pointer (some ⟨g,0,none⟩)) MV w.heap.size m d.L) (RecJ2 w1 (.pointer (some ⟨g,0,none⟩)) MV m d.L) (fun a _=>d.L.length - (intOf (a.tmps.getD 7 undef)+1).toNat) rfl rfl ?_ ?_ ?_
 ·intro PASS
  have HP:=hid PASS;clear PASS;go_wp2_with fail;refine (Zz75 F g pg d mk _ H1.out hok).mono ?_;rintro e w2 ⟨A,c,vs,rfl,hobs,-,hb2⟩;have hcc:=Zz14 hobs.own;have HO:=hid hobs;have HB2:=hid hb2;clear hobs hb2;go_wp2_with fail;refine wp_label ?_;simp only [Exit.then];rename_i K0 hK0
  refine hK0 _ _ (HP.out _ _ ?_);refine ⟨0,d.L.length,c,-1,A,none,0,vs, [],.slice none 0 0,rfl,⟨Nat.zero_le _,rfl,hcc.1,hcc.2⟩,rfl,⟨HO.out,ORs.nil_ _ _,HB2.out⟩,by rfl,_,_,_,_,_,_,_,_,_,_,_,_,_,_,_,_,_,_,_,_,_,_,_,_,_,_,_,_,_,_,_,_,_,_,rfl⟩
 ·rintro a wo ⟨k,nl,cl,z,Al,Ao',co',vs,xs,vo,rfl,⟨hk,hnl,hcl1,hcl2⟩,rfl,hp,HF,x2,x4,x8,x9,x10,x11,x12,x13,x14,x15,x16,x17,x18,x19,x20,x21,x22,x23,x24,x25,x26,x27,x28,x29,x30,x31,x32,x33,x34,x35,x36,x37,x38,x39,rfl⟩
  have HPP:=hid hp;have HNL:=hid hnl;clear hp;by_cases hlt:k < nl
  ·have hlt':(k:Int) < (nl:Int):=by omega
   have hrd:=OBs.read HPP.out.l hnl.symm;obtain ⟨bb,o,A',c',rfl,hbb,hcell,hcc1,hcc2,hsl⟩:=hrd.get hlt;obtain ⟨cc,hcc⟩:∃ cc,d.L.getD k []=cc:=⟨_,rfl⟩;rw [hcc] at hcell hsl hcc1;have hc64:cc.length=64:=by
    rw [← hcc,ZgD,ZgE (by omega)];exact HC.out _ (List.getElem_mem _)
   have htk:d.L.take (k+1)=d.L.take k++ [cc]:=by
    rw [ZtS (by omega),← hcc,ZgD,ZgE (by omega)];rfl
   rw [hc64] at hcell hsl hcc1;have HSL:=hid hsl;have HTK:=hid htk;have hxl:xs.length≤k:=by
    have:=congrArg List.length HF.out
    rw [List.length_map] at this;have h2:=Zz1r m (d.L.take k);rw [List.length_take] at h2;omega
   have hx512:xs.length≤512:=by omega
   clear hrd hsl htk hcc hc64 hnl;go_wp2_with fail;refine (Zza8 wo.heap.size A' cc 64 c' wo HSL.out (ZnR _) (by omega) hcc1 hcc2).mono ?_;rintro e w3 ⟨dv,rfl,hod,hb3⟩;obtain ⟨Ar,cr,rfl,hr1,hr2,_⟩:=Zz0h hod;obtain ⟨T,hT⟩:∃ T,takeR cc=T:=⟨_,rfl⟩;rw [hT] at hod hr1 ⊢;have hp3:=HPP.out.below hb3;have hrow3:=HX.out.below hp3.be HX.out.lt;have hz3:w1.heap.size≤w3.heap.size:=hp3.be.size;have HT:=hid hT;have HP3:=hid hp3;have HB3:=hid hb3;clear hT hp3 hb3;cases T with
   | none=>
    clear hrow3;simp only [Option.getD_none,Option.isSome_none,Rec.val,Rec.zero];go_wp2_with fail;refine wp_goto ?_;have hcn:=Zz82 (m:=m) (l:=d.L.take k) HT.out;rw [← HTK.out] at hcn;have hnl:=HNL.out;refine .inl ⟨rfl,⟨k+1,nl,cl,k,some ⟨bb,o,none⟩,Ao',co',vs,xs,_,by omega,⟨by omega,hnl,hcl1,hcl2⟩,rfl,HP3.out.below ((Below.refl _ _).alloc (ZnR _) _),by rw [hcn];exact HF.out,_,_,_,_,_,_,_,_,_,_,_,_,_,_,_,_,_,_,_,_,_,_,_,_,_,_,_,_,_,_,_,_,_,_,rfl⟩,?_⟩;simp [intOf]
    omega
   | some r=>
    simp only [Option.getD_some] at hod hr1;simp only [Option.getD_some,Option.isSome_some,Rec.val];obtain ⟨nr,hnr⟩:∃ nr,r.D.length=nr:=⟨_,rfl⟩;rw [hnr] at hod hr1 ⊢;have HOD:=hid hod;have HNR:=hid hnr;have hgml:=hrow3.lt;have hrow4:=hrow3.alloc (.cells #[.int .i64 r.O,.int .i64 r.B,.int .i64 r.I,.int .i64 r.P.K,.int .i64 r.P.H,.int .i64 r.P.S,.int .u32 (r.S.toNat:Int),.slice Ar nr cr] 73);have hrr4:=Row.new w3 73 #[.int .i64 r.O,.int .i64 r.B,.int .i64 r.I,.int .i64 r.P.K,.int .i64 r.P.H,.int .i64 r.P.S,.int .u32 (r.S.toNat:Int),.slice Ar nr cr]
    have hb4:Below w3.heap.size w3 (w3.alloc (.cells #[.int .i64 r.O,.int .i64 r.B,.int .i64 r.I,.int .i64 r.P.K,.int .i64 r.P.H,.int .i64 r.P.S,.int .u32 (r.S.toNat:Int),.slice Ar nr cr] 73)):=(Below.refl _ _).alloc (ZnR _) _;obtain ⟨g4,hg4⟩:∃ g4,w3.heap.size=g4:=⟨_,rfl⟩;rw [hg4] at hrr4;obtain ⟨b,hb⟩:∃ b,countsM m r=b:=⟨_,rfl⟩;have HBB:=hid hb;have HG4:=hid hg4;have HB4:=hid hb4;clear hod hnr hrow3 hb4 hb hg4;go_upto_region 7 with fail;try rw [HG4.out]
    generalize w3.alloc (.cells #[.int .i64 r.O,.int .i64 r.B,.int .i64 r.I,.int .i64 r.P.K,.int .i64 r.P.H,.int .i64 r.P.S,.int .u32 (r.S.toNat:Int),.slice Ar nr cr] 73)=w4 at*;have cm0:=hrow4.cell 0;have cm1:=hrow4.cell 1;have cm2:=hrow4.cell 2;have cm3:=hrow4.cell 3;have cm4:=hrow4.cell 4;have cm5:=hrow4.cell 5;have cm6:=hrow4.cell 6;have cm7:=hrow4.cell 7;have cr0:=hrr4.cell 0;have cr1:=hrr4.cell 1;have cr2:=hrr4.cell 2;have cr3:=hrr4.cell 3;have cr4:=hrr4.cell 4;have cr5:=hrr4.cell 5;have cr6:=hrr4.cell 6;have cr7:=hrr4.cell 7;simp only [ZgS,ZgZ] at cm0 cm1 cm2 cm3 cm4 cm5 cm6 cm7 cr0 cr1 cr2 cr3 cr4 cr5 cr6 cr7;have HR4:=hid hrr4;have hp4:=HP3.out.below HB4.out;have HP4:=hid hp4
    clear hrow4 hrr4 hp4;go_wp2_with fail;have hBw:B≤w1.heap.size:=ZnT hB HBW.out.size;refine (Zzax m r B Ad Ao Ar nd cd no co nr cr ts b w4 (HM.out.below (HP4.out.be.mono hBw)) (ZnT hBw HP4.out.be.size) HNR.out hno HBB.out).mono ?_;rintro e w5 ⟨rfl,hb5⟩;have hrr5:=HR4.out.below hb5 HR4.out.lt;have hp5:=HP4.out.below hb5;have HP5:=hid hp5;have HB5:=hid hb5;clear hb5 hp5 cm0 cm1 cm2 cm3 cm4 cm5 cm6 cm7 cr0 cr1 cr2 cr3 cr4 cr5 cr6 cr7;obtain ⟨cr0,cr1,cr2,cr3,cr4,cr5,cr6,cr7⟩:=Row.c8 hrr5;clear hrr5;have hcn:=Zz86 (m:=m) (l:=d.L.take k) HT.out;rw [← HTK.out,HBB.out] at hcn;have HCN:=hid hcn;clear hcn;have hnl:=HNL.out;have HNL2:=hid hnl;clear hnl
    obtain ⟨ir,hir,hzr0,hzr1,hzr2⟩:=info_parts infoRecS;cases b with
    | false=>
     go_wp2_with fail;refine wp_goto ?_;have hnl:=HNL.out;refine .inl ⟨rfl,⟨k+1,nl,cl,k,some ⟨bb,o,none⟩,Ao',co',vs,xs,_,by omega,⟨by omega,hnl,hcl1,hcl2⟩,rfl,HP5.out,by have:=HCN.out;simp only [Bool.false_eq_true,↓reduceIte,List.append_nil] at this;rw [this];exact HF.out,_,_,_,_,_,_,_,_,_,_,_,_,_,_,_,_,_,_,_,_,_,_,_,_,_,_,_,_,_,_,_,_,_,_,rfl⟩,?_⟩;simp [intOf]
     omega
    | true=>
     go_wp2_with (first
      | ((with_reducible show wpList _ _ _ (⟨some 34,_,_,_,_,_⟩::_) _ _);refine wpList_plain rfl (fun K hK=> ?_);refine Zz2c 43 73 (.tmp 33) rfl _ _ _ _ _ _ _ _ rfl ir _ _ _ _ _ _ _ _ Tryz.underlying43 hir hzr0 hzr1 ?_;rintro w6 g6 hg6 hr6 hb6 hz6;refine hK _ _ ?_;clear hK K;have HR6:=hid hr6;have HB6:=hid hb6;have HG6:=hid hg6;have HP6:=hid (HP5.out.below (by rw [hg6];exact hb6));have hg6l:=hr6.lt;clear hr6 hb6 hg6 hz6)
      | ((with_reducible show wpList _ _ _ (⟨some 35,_,_,_,_,_⟩::_) _ _);go_must (refine Zz03 rfl (.tmp 32) (.tmp 34) 43 rfl w1.heap.size 73 ir _ 8 80 Tryz.underlying43 hir hzr0 hzr1 hzr2 rfl (by omega) (.slice Ao' xs.length co') xs.length (xs.flatMap encR) rfl HP6.out.o.own w6.heap.size (some ⟨g6,0,none⟩) 1 1 (encR ⟨r,Ar,nr,cr⟩) rfl (HR6.out.sl8 rfl hg6l) (Zz2j _) (xs.length+1) rfl _ rfl (by omega) (by omega) HP6.out.be.size ?_);intro A7 c7 w7 ho7 hg7 _))
     have hps:=ORs.push HP6.out.o (x:=⟨r,Ar,nr,cr⟩) (Zz0b ((((HOD.out.below HB4.out).below HB5.out).below (by rw [HG6.out];exact HB6.out))) HPP.out.be.size) ho7 hg7;have hl7:=OBs.grown HP6.out.l HP6.out.o.own hg7 (by decide) (by decide);have hb7:=Zz04 HP6.out.be HP6.out.o.own hg7 (ZnR _) HP6.out.be.size;have HP7:=hid (show RecP w1 w7 (some ⟨bb,o,none⟩) nl cl vs d.L (.slice A7 (xs.length+1) c7) (xs++ [⟨r,Ar,nr,cr⟩]) from ⟨hl7,hps,hb7⟩);clear hps hl7 hb7 ho7 hg7;refine wp_goto ?_;have hnl:=HNL.out
     refine .inl ⟨rfl,⟨k+1,nl,cl,k,some ⟨bb,o,none⟩,A7,c7,vs,xs++ [⟨r,Ar,nr,cr⟩],_,by omega,⟨by omega,hnl,hcl1,hcl2⟩,by rw [List.length_append];rfl,HP7.out,by have:=HCN.out;simp only [if_true] at this;rw [this,List.map_append,HF.out];rfl,_,_,_,_,_,_,_,_,_,_,_,_,_,_,_,_,_,_,_,_,_,_,_,_,_,_,_,_,_,_,_,_,_,_,rfl⟩,?_⟩;simp [intOf]
     omega
  ·have hlt':¬ (k:Int) < (nl:Int):=by omega
   obtain rfl:k=nl:=by omega
   go_wp2_with fail;refine wp_goto ?_;refine .inr ⟨rfl,Ao',co',xs,_,rfl,HPP.out.o,HPP.out.be,?_,_,_,_,_,_,_,_,_,_,_,_,_,_,_,_,_,_,_,_,_,_,_,_,_,_,_,_,_,_,_,_,_,_,_,_,_,_,rfl⟩;have:=HF.out
   rwa [ZtL (by omega)] at this
 ·rintro a wo ⟨Ao',co',xs,vo,rfl,ho,hb,HF,x2,x3,x4,x5,x7,x8,x9,x10,x11,x12,x13,x14,x15,x16,x17,x18,x19,x20,x21,x22,x23,x24,x25,x26,x27,x28,x29,x30,x31,x32,x33,x34,x35,x36,x37,x38,x39,rfl⟩
  have HO:=hid ho;have HB:=hid hb;have hxl:xs.length≤512:=by
   have:=congrArg List.length HF.out
   rw [List.length_map] at this;have h2:=Zz1r m d.L;omega
  clear ho hb;go_wp2_with fail;refine (Zz9v w1.heap.size xs Ao' _ co' wo HO.out rfl (by omega)).mono ?_;rintro e w3 ⟨rfl,ho3,hg3⟩;have hb3:=Zz04 HB.out HO.out.own hg3 (ZnR _) HB.out.size;have HO3:=hid ho3;have HB3:=hid hb3;clear ho3 hg3 hb3;go_wp2_with fail;refine (Zzb6 w1.heap.size (ssort ltD xs) Ao' _ co' w3 HO3.out (Zz09 _) (by omega)).mono ?_;rintro e w4 ⟨A4,n4,c4,rfl,hn4,ho4,hg4⟩;have ho3':=HO3.out.own;rw [Zz09] at ho3';have hb4:=Zz04 HB3.out ho3' hg4 (ZnR _) HB3.out.size;have HO4:=hid ho4;have HB4:=hid hb4;have HN4:=hid hn4;clear ho4 hg4 hb4 hn4 ho3';go_wp2_with fail;simp only [jump2];go_ret
  have hm:(cpt ltD (ssort ltD xs)).map RD.r=recsL m d.L:=by
   rw [Zzib (lt:=ltD) (lt2:=ltR) RD.r (fun _ _=>rfl),Zz9i (lt:=ltD) (lt2:=ltR) RD.r (fun _ _=>rfl),HF.out];rfl
  exact ⟨A4,n4,c4,_,rfl,by rw [HN4.out,← hm,List.length_map],HO4.out.base HBW.out.size,hm,HBW.out.trans (HB4.out.mono HBW.out.size)⟩
end Go.Proofs.YtnknjeipfjdjoaaGreatDoor
namespace Wells
open Go Go.RowKit
theorem Zz53 {α:Type} [Inhabited α] {enc:α→List Value} (hk:∀ x,(enc x).length=8):∀ (l:List α) (i j:Nat),i < l.length→j < 8→(l.flatMap enc)[i*8+j]? =(enc l[i]!)[j]?
 | [],i,_,h,_=>absurd h (by simp)
 | x::l,0,j,_,hj=>by
  rw [List.flatMap_cons,List.getElem?_append_left (by rw [hk];omega)];simp
 | x::l,i+1,j,hi,hj=>by
  rw [List.flatMap_cons,List.getElem?_append_right (by rw [hk];omega),hk,show (i+1)*8+j - 8=i*8+j by omega,Zz53 hk l i j (by simpa using hi) hj];simp
end Wells
namespace Go.Proofs.YtnknjeipfjdjoaaGreatDoor
open Go.RowKit Wells
theorem ORs.grown {base base':Nat} {w w':World} {v u:Value} {ys:List RD} {t:TypeId} {size n:Nat} {xs:List Value} (h:ORs base w v ys) (ho:w.ownsRow base' t size u n xs) (hg:w.grownBy w' u.ownBlock) (h1:73≠t) (h2:5≠t):ORs base w' v ys:=
 ⟨h.own.kept hg (Zz0i h.own ho h1),fun x hx=>(h.at_ x hx).keep hg (Zz0i (h.at_ x hx) ho h2)⟩
theorem ORs.get {base:Nat} {w:World} {A:Option Addr} {n c:Nat} {xs:List RD} (h:ORs base w (.slice A n c) xs) (hn:xs.length=n) {i:Nat} (hi:i < n):
  ∃ b o,A=some ⟨b,o,none⟩∧b < w.heap.size∧xs[i]! ∈xs∧∀ j v,(encR xs[i]!)[j]? =some v→w.cell? ⟨b,o+i*8+j,none⟩=some v:=by
 have ho:=h.own;rw [hn] at ho;have hs:=Sl.own ho;obtain ⟨b,o,rfl,hb,hc⟩:=hs.at_ (by omega);refine ⟨b,o,rfl,hb,?_,fun j v hv=> ?_⟩
 ·rw [getElem!_pos xs i (by omega)];exact List.getElem_mem _
 ·have hj:j < 8:=by have:=(List.getElem?_eq_some_iff.1 hv).1;rwa [Zz15] at this
  rw [Nat.add_assoc];exact hc _ _ (by rw [Zz53 Zz15 xs i j (by omega) hj];exact hv)
def CelR (w:World) (ls:List (List Byte)) (e:Ending) (w':World):Prop:=
 ∃ (A:Option Addr) (n c:Nat) (vs:List Value),e= .returned (.slice A n c)∧n=ls.length∧OBs w.heap.size w' (.slice A n c) vs ls∧Below w.heap.size w w'
theorem Zze1 (F:Nat→Prop) (g pg:Nat) (d:Dr) (mk:Nat) (m:Mani) (B:Nat) (Ad Ao:Option Addr) (nd cd no co:Nat) (ts:List Value) (w:World) (h:DrvE F w g pg d) (hok:DOk mk d) (hm:RM w B m Ad nd cd Ao no co ts) (hB:B≤w.heap.size) (hno:no≤9223372036854775807):
  Calls Tryz.prog 59 #[.pointer (some ⟨g,0,none⟩),m.val (.slice Ad nd cd) (.slice Ao no co)] w (CelR w ((recsL m d.L).map putR)):=by
 have hb:Below w.heap.size w (w.alloc (.cells #[.int .i64 m.seq,.int .i64 m.next,.int .i64 m.P.K,.int .i64 m.P.H,.int .i64 m.P.S,.int .i64 m.extra,.slice Ad nd cd,.slice Ao no co] 28)):=(Below.refl _ _).alloc (ZnR _) _;have H1:=hid (h.new_ hb);have hx:=Row.new w 28 #[.int .i64 m.seq,.int .i64 m.next,.int .i64 m.P.K,.int .i64 m.P.H,.int .i64 m.P.S,.int .i64 m.extra,.slice Ad nd cd,.slice Ao no co];obtain ⟨x0,x1,x2,x3,x4,x5,x6,x7⟩:=Row.c8 hx;have HM:=hid (hm.below (hb.mono hB));have HBW:=hid hb;have hll:=hok.len;have hrm:=hok.room;have hrl:(recsL m d.L).length≤512:=by
  unfold recsL;have h1:=Zz3t (lt:=ltR) (ssort ltR (cntL m d.L));rw [Zz09] at h1;have h2:=Zz1r m d.L;omega
 obtain ⟨ibs,hibs,hzb0,hzb1,hzb2⟩:=info_parts infoBs;clear hb h hm hx;unfold Mani.val;go_enter Tryz.func59,Tryz.ntmps59;go_wp2_with fail;generalize w.alloc (.cells #[.int .i64 m.seq,.int .i64 m.next,.int .i64 m.P.K,.int .i64 m.P.H,.int .i64 m.P.S,.int .i64 m.extra,.slice Ad nd cd,.slice Ao no co] 28)=w1 at*;refine (Zz32 F g pg d mk m B Ad Ao nd cd no co ts w1 H1.out hok HM.out (ZnT hB HBW.out.size) hno).mono ?_;rintro e w2 ⟨A,n,c,xs,rfl,hn,ho,hmap,hb2⟩;have hxn:xs.length=n:=by rw [hn,← hmap,List.length_map]
 have hn512:n≤512:=by omega
 have HO:=hid ho;have HMAP:=hid hmap;have HXN:=hid hxn;have HB2:=hid (HBW.out.trans (hb2.mono HBW.out.size));clear ho hmap hn hb2 hxn x0 x1 x2 x3 x4 x5 x6 x7;go_wp2_with fail;go_loopw [5,12] (fun v i wr=>∃ (k:Nat) (A2:Option Addr) (c2:Nat) (vs:List Value),k≤n∧v= .slice A2 k c2∧i= .int .i64 (k:Int)∧(k≤c2∧c2≤9223372036854775807)∧ORs w1.heap.size wr (.slice A n c) xs∧OBs w2.heap.size wr (.slice A2 k c2) vs (((recsL m d.L).map putR).take k)∧Below w2.heap.size w2 wr) (fun _ i _=>n - (intOf i).toNat)
 case atStart=>exact ⟨0,none,0, [],Nat.zero_le _,rfl,rfl,by omega,HO.out,by simpa using OBs.nil_ _ _,Below.refl _ _⟩
 case round=>
  obtain ⟨k,A2,c2,vs,hk,rfl,rfl,hkc,hors,hobs,hbr⟩:=hrel;have HORS:=hid hors;have HOBS:=hid hobs;have HBR:=hid hbr;clear hors hobs hbr;by_cases hlt:k < n
  ·have hlt':(k:Int) < (n:Int):=by omega
   obtain ⟨bb,o,rfl,hbb,hxm,hcells⟩:=HORS.out.get HXN.out hlt;obtain ⟨x,hx⟩:∃ x,xs[k]! =x:=⟨_,rfl⟩;rw [hx] at hxm hcells;have hxr:(recsL m d.L)[k]? =some x.r:=by
    rw [← HMAP.out,List.getElem?_map,ZgE (by have:=HXN.out;omega)];rw [← hx,getElem!_pos xs k (by have:=HXN.out;omega)];rfl
   have htk:((recsL m d.L).map putR).take (k+1)=((recsL m d.L).map putR).take k++ [putR x.r]:=by
    have hl:k < ((recsL m d.L).map putR).length:=by rw [List.length_map,← HMAP.out,List.length_map];have:=HXN.out;omega
    rw [ZtS hl];congr 2
    have h3:((recsL m d.L).map putR)[k]? =some (putR x.r):=by rw [List.getElem?_map,hxr];rfl
    rw [ZgE hl] at h3;injection h3
   have hlk:(((recsL m d.L).map putR).take k).length=k:=by
    rw [List.length_take,List.length_map,← HMAP.out,List.length_map];have:=HXN.out;omega
   obtain ⟨r,Ar,nr,cr⟩:=x;have c0:=hcells 0 _ rfl;have c1:=hcells 1 _ rfl;have c2':=hcells 2 _ rfl;have c3:=hcells 3 _ rfl;have c4:=hcells 4 _ rfl;have c5:=hcells 5 _ rfl;have c6:=hcells 6 _ rfl;have c7:=hcells 7 _ rfl;simp only [Nat.add_zero,RD.dv] at c0 c1 c2' c3 c4 c5 c6 c7;have hdat:=(HORS.out.at_ _ hxm);have HDAT:=hid hdat;have HTK:=hid htk;have HLK:=hid hlk;have hnrl:nr=r.D.length:=by
    obtain ⟨_,_,he,_⟩:=Zz0h hdat;injection he
   have HNR:=hid hnrl;clear hcells hxm hx hxr htk hdat hlk hnrl;have hb4:Below wr.heap.size wr (wr.alloc (.cells #[.int .i64 r.O,.int .i64 r.B,.int .i64 r.I,.int .i64 r.P.K,.int .i64 r.P.H,.int .i64 r.P.S,.int .u32 (r.S.toNat:Int),.slice Ar nr cr] 73)):=(Below.refl _ _).alloc (ZnR _) _;have HB4:=hid hb4;clear hb4;go_wp2_with fail;generalize wr.alloc (.cells #[.int .i64 r.O,.int .i64 r.B,.int .i64 r.I,.int .i64 r.P.K,.int .i64 r.P.H,.int .i64 r.P.S,.int .u32 (r.S.toNat:Int),.slice Ar nr cr] 73)=w4 at*;have hd4:=HDAT.out.below HB4.out;have hsl4:Sl w4 w4.heap.size 1 Ar nr (r.D.map bv8):=by
    have:=hd4
    unfold OB RD.dv at this;rw [← HNR.out] at this;exact Sl.own this
   refine (Zz6r w4.heap.size r Ar nr cr w4 hsl4 (ZnR _)).mono ?_;rintro e w5 ⟨vp,rfl,hop,hb5⟩;obtain ⟨Ap,cp,rfl,hp1,hp2,_⟩:=Zz0h hop;have hb45:=HB4.out.trans (hb5.mono HB4.out.size);have HORS5:=hid (HORS.out.below hb45);have HOBS5:=hid (HOBS.out.below hb45);have HBR5:=hid (HBR.out.trans (hb45.mono HBR.out.size));have HOP:=hid (Zz0b hop (ZnT HBR.out.size HB4.out.size));clear hd4 hsl4 hop hb5 hb45 c0 c1 c2' c3 c4 c5 c6 c7;go_wp2_with (first
    | ((with_reducible show wpList _ _ _ (⟨some 19,_,_,_,_,_⟩::_) _ _);refine wpList_plain rfl (fun K hK=> ?_);refine Zz2s 23 33 (.tmp 18) (by rfl) _ (by rfl) rfl ibs (.slice none 0 0) Tryz.underlying23 hibs hzb0 hzb1 rfl ?_;rintro w6 g6 hg6 hr6 hb6 hz6;refine hK _ _ ?_;clear hK K;subst hg6;have HR6:=hid hr6;have HOBS6:=hid (HOBS5.out.below hb6);have HORS6:=hid (HORS5.out.below hb6);have HBR6:=hid (HBR5.out.trans (hb6.mono HBR5.out.size));have HOP6:=hid (OB.below HOP.out hb6);have hg6l:=hr6.lt;clear hr6 hb6 hz6)
    | ((with_reducible show wpList _ _ _ (⟨some 20,_,_,_,_,_⟩::_) _ _);go_must (refine Zz03 rfl (.tmp 16) (.tmp 19) 23 rfl w2.heap.size 33 ibs (.slice none 0 0) 1 24 Tryz.underlying23 hibs hzb0 hzb1 hzb2 rfl (by omega) (.slice A2 k c2) k vs rfl (by have:=HOBS6.out.own;rwa [HLK.out] at this) (w5.heap.size+1) (some ⟨w5.heap.size,0,none⟩) 1 1 [_] rfl (HR6.out.sl (by omega) (ZnR _)) (by intro u hu;simp only [List.mem_singleton] at hu;subst hu;rfl) (k+1) rfl _ rfl (by omega) (by omega) HBR6.out.size ?_);intro A7 c7 w7 ho7 hg7 _))
   have hps:=OBs.push HOBS6.out HOP6.out (by rw [HLK.out];exact ho7) hg7;rw [← HTK.out] at hps;have hr7:=ORs.grown HORS6.out HOBS6.out.own hg7 (by decide) (by decide);have hb7:=Zz04 HBR6.out HOBS6.out.own hg7 (ZnR _) HBR6.out.size;have hc7:=Zz14 ho7;have HPS:=hid hps;have HR7:=hid hr7;have HB7:=hid hb7;clear hps hr7 hb7 ho7 hg7;go_roundw
   case rel=>exact ⟨k+1,A7,c7,_,by omega,rfl,by go_num,hc7,HR7.out,HPS.out,HB7.out⟩
   case measure=>simp [intOf] <;> omega
  ·have hlt':¬ (k:Int) < (n:Int):=by omega
   obtain rfl:k=n:=by omega
   go_wp2_with fail;go_ret
   have ho:=HOBS.out;have hl:((recsL m d.L).map putR).length=k:=by rw [List.length_map,← HMAP.out,List.length_map,HXN.out]
   rw [ZtL (by omega)] at ho;exact ⟨A2,k,c2,vs,rfl,hl.symm,ho.base HB2.out.size,HB2.out.trans (HBR.out.mono HB2.out.size)⟩
end Go.Proofs.YtnknjeipfjdjoaaGreatDoor
namespace Wells
open Go Go.RowKit
theorem recsL_rise (m:Mani) (l:List (List Byte)):(recsL m l).Pairwise (fun a b=>ltR a b=true):=Zzch ltR_ord (Zz0q ltR_ord _)
end Wells
namespace Go.Proofs.YtnknjeipfjdjoaaGreatDoor
open Go.RowKit Wells
theorem Zz4v (r q:Rec) (d e:Value) (b:Bool) (w:World) (hb:ltR r q=b):Calls Tryz.prog 52 #[r.val d,q.val e] w fun en w'=>en= .returned (.bool b)∧Below w.heap.size w w':=by
 have hb1:Below w.heap.size w (w.alloc (.cells #[.int .i64 r.O,.int .i64 r.B,.int .i64 r.I,.int .i64 r.P.K,.int .i64 r.P.H,.int .i64 r.P.S,.int .u32 (r.S.toNat:Int),d] 73)):=(Below.refl _ _).alloc (ZnR _) _;have hb2:=hb1.alloc hb1.size (.cells #[.int .i64 q.O,.int .i64 q.B,.int .i64 q.I,.int .i64 q.P.K,.int .i64 q.P.H,.int .i64 q.P.S,.int .u32 (q.S.toNat:Int),e] 73);have HB2:=hid hb2;have HB:=hid hb;clear hb hb1 hb2;unfold Rec.val;unfold ltR at HB;by_cases h1:r.O=q.O
 ·by_cases h2:r.B=q.B
  ·have h2':¬ r.B < q.B:=by omega
   have h1':¬ r.O < q.O:=by omega
   have hv:decide (r.I < q.I)=b:=by rw [← HB.out];simp [h1,h2]
   have HV:=hid hv;clear hv;go_enter Tryz.func52,Tryz.ntmps52;go_wp2_with fail;go_ret
   exact ⟨Zz0a HV.out,((Below.refl _ _).alloc (ZnR _) _).alloc (by simp) _⟩
  ·have hv:decide (r.B < q.B)=b:=by rw [← HB.out];simp [h1,h2]
   have HV:=hid hv;clear hv;go_enter Tryz.func52,Tryz.ntmps52;go_wp2_with fail;go_ret
   exact ⟨Zz0a HV.out,((Below.refl _ _).alloc (ZnR _) _).alloc (by simp) _⟩
 ·have hv:decide (r.O < q.O)=b:=by rw [← HB.out];simp [h1]
  have HV:=hid hv;clear hv;go_enter Tryz.func52,Tryz.ntmps52;go_wp2_with fail;go_ret
  exact ⟨Zz0a HV.out,((Below.refl _ _).alloc (ZnR _) _).alloc (by simp) _⟩
end Go.Proofs.YtnknjeipfjdjoaaGreatDoor
