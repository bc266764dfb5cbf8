/- Lists Sep StableNilM Equal Iv Eqs Copy -/
import Derived.Test.YtnknjeipfjdjoaaGreatDoorProg
import Derived.Deep.DeepMust
import Derived.Deep.QuietTactic
import Derived.BigQuiet
import Derived.StillTailTactics
import Derived.Laws.BytesArg
import Derived.Lib.Bytes
import Derived.Lib.SliceRun
import Derived.WalkKit
import Derived.Test.YtnknjeipfjdjoaaGreatDoorBScanTells00
set_option maxHeartbeats 8000000
set_option maxRecDepth 20000
set_option linter.unusedSimpArgs false
set_option linter.unusedVariables false
set_option linter.unusedSectionVars false
namespace Go.Proofs.YtnknjeipfjdjoaaGreatDoor
open Go.RowKit Wells
theorem infoB:(Tryz.prog.info? 5).map (fun i=>(i.zero,i.size,i.bytes))=some (some (.int .u8 0),1,1):=by kernel_rfl
theorem infoBs:(Tryz.prog.info? 33).map (fun i=>(i.zero,i.size,i.bytes))=some (some (.slice none 0 0),1,24):=by kernel_rfl
theorem Zz1l (l:List Byte) (k:Nat) (h:k < l.length):(l.map bv8)[k]? =some (bv8 (l.getD k 0)):=by
 rw [List.getElem?_map,ZgE h];simp [h]
theorem Zz0v (l:List Byte):∀ v∈l.map bv8,v.oneCell'=true:=by
 intro v hv;obtain ⟨b,_,rfl⟩:=List.mem_map.1 hv;rfl
theorem Zz01 {B:Nat} {a w:World} (h:Below B a w) (n:Nat):Below B a (w.drewN n):=⟨h.os,h.tape,h.output,h.size,h.block⟩
theorem Zz02 {w w':World} (h:Below w.heap.size w w') (row:Option Nat):w.grownBy w' row:=⟨h.os,h.tape,h.output,h.size,fun k hk _=>h.block k hk⟩
def RB (w:World) (B:Nat) (v:Value) (l:List Byte):Prop:=∃ A c,v= .slice A l.length c∧l.length≤c∧c≤9223372036854775807∧Sl w B 1 A l.length (l.map bv8)
theorem RB.keep {w w':World} {B:Nat} {v:Value} {l:List Byte} (h:RB w B v l) (hb:Below B w w'):RB w' B v l:=by
 obtain ⟨A,c,e,h1,h2,h3⟩:=h;exact ⟨A,c,e,h1,h2,h3.below hb⟩
theorem RB.mono {w:World} {B B':Nat} {v:Value} {l:List Byte} (h:RB w B v l) (hb:B≤B'):RB w B' v l:=by
 obtain ⟨A,c,e,h1,h2,h3⟩:=h;exact ⟨A,c,e,h1,h2,h3.mono hb⟩
structure RBs (w:World) (B:Nat) (A:Option Addr) (n:Nat) (vs:List Value) (ls:List (List Byte)):Prop where
 sl:Sl w B 1 A n vs
 len:ls.length=n
 at_:∀ i,i < n→RB w B (vs.getD i undef) (ls.getD i [])
theorem RBs.below {w w':World} {B n:Nat} {A:Option Addr} {vs:List Value} {ls:List (List Byte)} (h:RBs w B A n vs ls) (hb:Below B w w'):RBs w' B A n vs ls:=
 ⟨h.sl.below hb,h.len,fun i hi=>(h.at_ i hi).keep hb⟩
theorem RBs.mono {w:World} {B B' n:Nat} {A:Option Addr} {vs:List Value} {ls:List (List Byte)} (h:RBs w B A n vs ls) (hb:B≤B'):RBs w B' A n vs ls:=
 ⟨h.sl.mono hb,h.len,fun i hi=>(h.at_ i hi).mono hb⟩
theorem RBs.drewN {w:World} {B n:Nat} {A:Option Addr} {vs:List Value} {ls:List (List Byte)} (h:RBs w B A n vs ls) (d:Nat):RBs (w.drewN d) B A n vs ls:=
 h.below (Zz01 (Below.refl B w) d)
theorem RBs.get {w:World} {B n:Nat} {A:Option Addr} {vs:List Value} {ls:List (List Byte)} (h:RBs w B A n vs ls) {k:Nat} (hk:k < n):
  ∃ b o A' c,A=some ⟨b,o,none⟩∧b < B∧w.cell? ⟨b,o+k,none⟩=some (.slice A' (ls.getD k []).length c)∧(ls.getD k []).length≤c∧c≤9223372036854775807∧Sl w B 1 A' (ls.getD k []).length ((ls.getD k []).map bv8):=by
 have hv:k < vs.length:=by have:=h.sl.len;omega
 obtain ⟨A',c,e,h1,h2,h3⟩:=h.at_ k hk;obtain ⟨b,o,hA,hb,hc⟩:=h.sl.get hk (ZgE hv);rw [ZgD,ZgE hv] at e;exact ⟨b,o,A',c,hA,hb,by rw [hc];exact congrArg some e,h1,h2,h3⟩
def OB (base:Nat) (w:World) (v:Value) (l:List Byte):Prop:=w.ownsRow base 5 1 v l.length (l.map bv8)
theorem OB.read {base:Nat} {w:World} {v:Value} {l:List Byte} (h:OB base w v l):RB w w.heap.size v l:=Zz0h h
theorem OB.keep {base:Nat} {w w':World} {v:Value} {l:List Byte} {row:Option Nat} (h:OB base w v l) (hg:w.grownBy w' row) (hne:v.ownBlock=none∨v.ownBlock≠row):OB base w' v l:=h.kept hg hne
theorem OB.below {base:Nat} {w w':World} {v:Value} {l:List Byte} (h:OB base w v l) (hb:Below w.heap.size w w'):OB base w' v l:=
 h.kept (Zz02 hb none) (by cases v.ownBlock <;> simp)
theorem Zz2i {base:Nat} {w:World} {e t:TypeId} {size n:Nat} {v:Value} {xs:List Value} {g:Nat} {cs:Array Value} {fr:Nat×Nat} (h:w.ownsRow base e size v n xs) (hg:w.heap[g]? =some (.cells cs t fr)) (hne:e≠t):v.ownBlock=none∨v.ownBlock≠some g:=by
 rcases h.2 with ⟨rfl,_⟩ | ⟨g',cap,cur,rfl,_,hh,_⟩
 ·exact .inl rfl
 ·refine .inr fun he=> ?_
  have:g'=g:=by simpa [Value.ownBlock] using he
  subst this;rw [hg] at hh;injection hh with hh;injection hh with _ ht;exact hne ht.symm
theorem Zz0i {base base':Nat} {w:World} {e t:TypeId} {size size' n n':Nat} {v v':Value} {xs xs':List Value} (h:w.ownsRow base e size v n xs) (h':w.ownsRow base' t size' v' n' xs') (hne:e≠t):v.ownBlock=none∨v.ownBlock≠v'.ownBlock:=by
 rcases h'.2 with ⟨rfl,_⟩ | ⟨g',cap,cur,rfl,_,hh,_⟩
 ·cases hv:v.ownBlock
  ·exact .inl rfl
  ·exact .inr (by simp [Value.ownBlock])
 ·exact Zz2i h hh hne
def Seg (base:Nat) (w:World) (v:Value) (l:List Byte):Prop:=
 ∃ A c,v= .slice A l.length c∧l.length≤c∧c≤9223372036854775807∧(0 < l.length→∃ g cur,A=some ⟨g,0,none⟩∧base≤g∧Row w g 5 cur∧cur.take l.length=l.map bv8)
theorem Seg.nil_ (base:Nat) (w:World):Seg base w (.slice none 0 0) []:=⟨none,0,rfl,ZnR _,by omega,fun h=>absurd h (by simp)⟩
theorem Seg.read {base:Nat} {w:World} {v:Value} {l:List Byte} (h:Seg base w v l):RB w w.heap.size v l:=by
 obtain ⟨A,c,rfl,h1,h2,h3⟩:=h;refine ⟨A,c,rfl,h1,h2,by simp,fun h0=> ?_⟩;obtain ⟨g,cur,rfl,_,hr,ht⟩:=h3 h0;refine ⟨g,0,rfl,hr.lt,fun j u hu=> ?_⟩;rw [Nat.zero_add,hr.cell];rw [← ht,List.getElem?_take] at hu;split at hu
 ·exact hu
 ·cases hu
theorem OB.seg {base:Nat} {w:World} {v:Value} {l:List Byte} (h:OB base w v l):Seg base w v l:=by
 obtain ⟨A,c,rfl,h1,h2,_⟩:=Zz0h h;refine ⟨A,c,rfl,h1,h2,fun h0=> ?_⟩;rcases h.2 with ⟨hv,hn⟩ | ⟨g,cap,cur,hv,hb,hg,_,_,_,ht⟩
 ·omega
 ·injection hv with e1 e2 e3
  exact ⟨g,cur.toList,e1,hb,by simpa [Row] using hg,by simpa using ht⟩
theorem Seg.below {base:Nat} {w w':World} {v:Value} {l:List Byte} (h:Seg base w v l) (hb:Below w.heap.size w w'):Seg base w' v l:=by
 obtain ⟨A,c,e,h1,h2,h3⟩:=h;refine ⟨A,c,e,h1,h2,fun h0=> ?_⟩;obtain ⟨g,cur,hA,hg,hr,ht⟩:=h3 h0;exact ⟨g,cur,hA,hg,hr.below hb hr.lt,ht⟩
theorem Seg.base {base base':Nat} {w:World} {v:Value} {l:List Byte} (h:Seg base w v l) (hb:base'≤base):Seg base' w v l:=by
 obtain ⟨A,c,e,h1,h2,h3⟩:=h;refine ⟨A,c,e,h1,h2,fun h0=> ?_⟩;obtain ⟨g,cur,hA,hg,hr,ht⟩:=h3 h0;exact ⟨g,cur,hA,by omega,hr,ht⟩
theorem OB.front {base:Nat} {w:World} {A:Option Addr} {n c m c':Nat} {l:List Byte} (h:OB base w (.slice A n c) l) (hm:m≤l.length) (hc:m≤c') (hc':c'≤9223372036854775807):Seg base w (.slice A m c') (l.take m):=by
 have hl:(l.take m).length=m:=by simp [hm]
 have hs:=h.seg;obtain ⟨A',c',e,h1,h2,h3⟩:=hs;injection e with e1 e2 e3;subst e1 e2 e3;refine ⟨A,_,by rw [hl],by omega,hc',fun h0=> ?_⟩;rw [hl] at h0;obtain ⟨g,cur,hA,hg,hr,ht⟩:=h3 (by omega);refine ⟨g,cur,hA,hg,hr,?_⟩;rw [hl,List.map_take,← ht,List.take_take,Nat.min_eq_left hm]
structure OBs (base:Nat) (w:World) (v:Value) (vs:List Value) (ls:List (List Byte)):Prop where
 own:w.ownsRow base 33 1 v ls.length vs
 at_:∀ i,i < ls.length→OB base w (vs.getD i undef) (ls.getD i [])
theorem OBs.nil_ (base:Nat) (w:World):OBs base w (.slice none 0 0) [] []:=⟨World.ownsRow_nil _ _ _ _,fun i hi=>absurd hi (by simp)⟩
theorem OBs.below {base:Nat} {w w':World} {v:Value} {vs:List Value} {ls:List (List Byte)} (h:OBs base w v vs ls) (hb:Below w.heap.size w w'):OBs base w' v vs ls:=
 ⟨h.own.kept (Zz02 hb none) (by cases v.ownBlock <;> simp),fun i hi=>(h.at_ i hi).below hb⟩
theorem OBs.push {base:Nat} {w w':World} {v v':Value} {vs:List Value} {ls:List (List Byte)} {xv:Value} {x:List Byte} (h:OBs base w v vs ls) (hx:OB base w xv x)
  (ho:w'.ownsRow base 33 1 v' (ls.length+1) (vs++ [xv])) (hg:w.grownBy w' v.ownBlock):OBs base w' v' (vs++ [xv]) (ls++ [x]):=by
 have hlen:vs.length=ls.length:=by have:=h.own.1;omega
 refine ⟨by simpa using ho,fun i hi=> ?_⟩;simp only [List.length_append,List.length_singleton] at hi;by_cases hlt:i < ls.length
 ·rw [ZgD,ZgD,List.getElem?_append_left (by omega),List.getElem?_append_left hlt,← ZgD,← ZgD]
  exact (h.at_ i hlt).keep hg (Zz0i (h.at_ i hlt) h.own (by decide))
 ·have he:i=ls.length:=by omega
  subst he;rw [ZgD,ZgD,List.getElem?_append_right (by omega),List.getElem?_append_right (by omega)];simp only [hlen,Nat.sub_self,ZgZ,Option.getD_some];exact hx.keep hg (Zz0i hx h.own (by decide))
theorem OBs.read {base:Nat} {w:World} {A:Option Addr} {n c:Nat} {vs:List Value} {ls:List (List Byte)} (h:OBs base w (.slice A n c) vs ls) (hn:ls.length=n):RBs w w.heap.size A n vs ls:=by
 subst hn;exact ⟨Sl.own h.own,rfl,fun i hi=>(h.at_ i hi).read⟩
theorem Zz0b {base base':Nat} {w:World} {e:TypeId} {size n:Nat} {v:Value} {xs:List Value} (h:w.ownsRow base e size v n xs) (hb:base'≤base):w.ownsRow base' e size v n xs:=by
 refine ⟨h.1,?_⟩;rcases h.2 with h2 | ⟨g,cap,cur,hv,hg,r⟩
 ·exact .inl h2
 ·exact .inr ⟨g,cap,cur,hv,by omega,r⟩
theorem OBs.base {base base':Nat} {w:World} {v:Value} {vs:List Value} {ls:List (List Byte)} (h:OBs base w v vs ls) (hb:base'≤base):OBs base' w v vs ls:=
 ⟨Zz0b h.own hb,fun i hi=>Zz0b (h.at_ i hi) hb⟩
theorem OBs.form {base:Nat} {w:World} {v:Value} {vs:List Value} {ls:List (List Byte)} (h:OBs base w v vs ls):∃ A c,v= .slice A ls.length c∧ls.length≤c∧c≤9223372036854775807:=by
 obtain ⟨A,c,e,h1,h2,_⟩:=Zz0h h.own;exact ⟨A,c,e,h1,h2⟩
end Go.Proofs.YtnknjeipfjdjoaaGreatDoor
namespace Wells
open Go Go.RowKit
structure Only (F:Nat→Prop) (w w':World):Prop where
 os:w'.os=w.os
 tape:w'.tape=w.tape
 output:w'.output=w.output
 size:w.heap.size≤w'.heap.size
 block:∀ k,k < w.heap.size→¬ F k→w'.heap[k]? =w.heap[k]?
section
variable {F G:Nat→Prop} {w w' w'':World}
theorem Only.refl (F:Nat→Prop) (w:World):Only F w w:=⟨rfl,rfl,rfl,ZnR _,fun _ _ _=>rfl⟩
theorem Only.trans (h:Only F w w') (h':Only G w' w'') (hs:∀ k,k < w.heap.size→G k→F k):Only F w w'':=
 ⟨h'.os.trans h.os,h'.tape.trans h.tape,h'.output.trans h.output,ZnT h.size h'.size,fun k hk hn=>
  (h'.block k (Nat.lt_of_lt_of_le hk h.size) (fun hg=>hn (hs k hk hg))).trans (h.block k hk hn)⟩
theorem Only.mono (h:Only F w w') (hs:∀ k,F k→G k):Only G w w':=⟨h.os,h.tape,h.output,h.size,fun k hk hn=>h.block k hk (fun hf=>hn (hs k hf))⟩
theorem Only.of_new (h:Below w.heap.size w w'):Only F w w':=⟨h.os,h.tape,h.output,h.size,fun k hk _=>h.block k hk⟩
theorem Only.of_grown {row:Option Nat} (h:w.grownBy w' row) (hr:∀ k,row=some k→F k):Only F w w':=
 ⟨h.os,h.tape,h.output,h.size,fun k hk hn=>h.block k hk (fun e=>hn (hr k e.symm))⟩
theorem Only.below {B:Nat} (h:Only F w w') (hF:∀ k,F k→B≤k) (hB:B≤w.heap.size):Below B w w':=
 ⟨h.os,h.tape,h.output,h.size,fun k hk=>h.block k (by omega) (fun hf=>by have:=hF k hf;omega)⟩
theorem Only.set {g:Nat} (h:Only F w w') (hg:F g) (i:Nat) (v:Value):Only F w (w'.setCell ⟨g,i,none⟩ v):=
 ⟨h.os,h.tape,h.output,by simpa [World.setCell] using h.size,fun k hk hn=>(Below.heap_setCell w' ⟨g,i,none⟩ v k (fun e=>hn (by rw [e];exact hg))).trans (h.block k hk hn)⟩
theorem Only.drewN (h:Only F w w') (n:Nat):Only F w (w'.drewN n):=⟨h.os,h.tape,h.output,h.size,h.block⟩
theorem Only.drew (h:Only F w w'):Only F w w'.drew:=⟨h.os,h.tape,h.output,h.size,h.block⟩
def Ext (F:Nat→Prop) (w w':World):Nat→Prop:=fun k=>F k∨(w.heap.size≤k∧k < w'.heap.size)
theorem Only.next (h:Only F w w') (h':Only (Ext F w w') w' w''):Only F w w'':=
 h.trans h' fun k hk hg=>by
  rcases hg with hg | hg
  ·exact hg
  ·omega
def In (v:Value) (F:Nat→Prop):Prop:=∀ k,v.ownBlock=some k→F k
theorem In.mono {v:Value} (h:In v F) (hs:∀ k,F k→G k):In v G:=fun k hk=>hs k (h k hk)
theorem Zzih (F:Nat→Prop):In (.slice none 0 0) F:=fun k h=>by cases h
end
theorem Zzbi {G:Nat→Prop} {w w':World} {base n size:Nat} {e:TypeId} {v:Value} {xs:List Value} (h:w.ownsRow base e size v n xs) (ho:Only G w w') (hd:∀ k,v.ownBlock=some k→¬ G k):w'.ownsRow base e size v n xs:=by
 refine ⟨h.1,?_⟩;rcases h.2 with h2 | ⟨g,cap,cur,hv,hg,hh,r⟩
 ·exact .inl h2
 ·have hlt:g < w.heap.size:=by
   rcases Nat.lt_or_ge g w.heap.size with hlt | hge
   ·exact hlt
   ·rw [Array.getElem?_eq_none hge] at hh;cases hh
  exact .inr ⟨g,cap,cur,hv,hg,(ho.block g hlt (hd g (by rw [hv];rfl))).trans hh,r⟩
theorem Row.only {G:Nat→Prop} {w w':World} {g:Nat} {t:TypeId} {cs:List Value} (h:Row w g t cs) (ho:Only G w w') (hd:¬ G g):Row w' g t cs:=(ho.block g h.lt hd).trans h
end Wells
namespace Go.Proofs.YtnknjeipfjdjoaaGreatDoor
open Go.RowKit Wells
theorem OBs.only {G:Nat→Prop} {w w':World} {base:Nat} {v:Value} {vs:List Value} {ls:List (List Byte)} (h:OBs base w v vs ls) (ho:Only G w w') (hd:∀ k,v.ownBlock=some k→¬ G k) (hds:∀ x∈vs,∀ k,x.ownBlock=some k→¬ G k):OBs base w' v vs ls:=
 ⟨Zzbi h.own ho hd,fun i hi=>Zzbi (h.at_ i hi) ho (by
  have hl:vs.length=ls.length:=by have:=h.own.1;omega
  rw [ZgD,ZgE (by omega)];exact hds _ (List.getElem_mem _))⟩
structure Lst (F:Nat→Prop) (w:World) (v:Value) (vs:List Value) (ls:List (List Byte)):Prop where
 own:OBs 0 w v vs ls
 iv:In v F
 is:∀ x∈vs,In x F
theorem Lst.nil_ (F:Nat→Prop) (w:World):Lst F w (.slice none 0 0) [] []:=⟨OBs.nil_ _ _,Zzih F,fun x hx=>by cases hx⟩
theorem Lst.mono {F G:Nat→Prop} {w:World} {v:Value} {vs:List Value} {ls:List (List Byte)} (h:Lst F w v vs ls) (hs:∀ k,F k→G k):Lst G w v vs ls:=
 ⟨h.own,h.iv.mono hs,fun x hx=>(h.is x hx).mono hs⟩
theorem Lst.only {F G:Nat→Prop} {w w':World} {v:Value} {vs:List Value} {ls:List (List Byte)} (h:Lst F w v vs ls) (ho:Only G w w') (hd:∀ k,F k→¬ G k):Lst F w' v vs ls:=
 ⟨h.own.only ho (fun k hk=>hd k (h.iv k hk)) (fun x hx k hk=>hd k (h.is x hx k hk)),h.iv,h.is⟩
theorem Lst.len {F:Nat→Prop} {w:World} {v:Value} {vs:List Value} {ls:List (List Byte)} (h:Lst F w v vs ls):vs.length=ls.length:=by have:=h.own.own.1;omega
theorem Lst.of_own {w0 w:World} {v:Value} {vs:List Value} {ls:List (List Byte)} (h:OBs w0.heap.size w v vs ls) {F:Nat→Prop} (hF:∀ k,w0.heap.size≤k→k < w.heap.size→F k):Lst F w v vs ls:=
 ⟨h.base (Nat.zero_le _),fun k hk=>by have:=Zz2q h.own k hk;exact hF k this.1 this.2,fun x hx k hk=>by
  have hl:vs.length=ls.length:=by have:=h.own.1;omega
  obtain ⟨i,hi,rfl⟩:=List.getElem_of_mem hx;have:=h.at_ i (by omega)
  rw [ZgD,ZgE hi] at this;have:=Zz2q this k hk
  exact hF k this.1 this.2⟩
def Dist (vs:List Value):Prop:=vs.Pairwise fun a b=>∀ k,a.ownBlock=some k→b.ownBlock≠some k
theorem Zz9u (A:Option Addr) (c:Nat) (fv:Value) (w:World):
  Calls Tryz.prog 140 #[.slice A 0 c,.int .i64 0,.int .i64 0,fv] w fun e w'=>e= .returned (.tuple #[])∧w=w':=by
 go_enter Tryz.func140,Tryz.ntmps140;go_wp2_with fail;go_loopw [8] (fun a wr=>a= .int .i64 1∧w=wr) (fun _ _=>0)
 case atStart=>exact ⟨rfl,rfl⟩
 case round=>
  obtain ⟨rfl,rfl⟩:=hrel;go_wp2_with fail;go_end0
  exact ⟨rfl,rfl⟩
theorem Zz9k (A:Option Addr) (c:Nat) (fv:Value) (w:World):
  Calls Tryz.prog 126 #[.slice A 0 c,.int .i64 0,fv] w fun e w'=>e= .returned (.tuple #[])∧w=w':=by
 go_enter Tryz.func126,Tryz.ntmps126;go_wp2_with fail;go_loopw [7,8] (fun a b wr=>a= .int .i64 0∧b= .int .i64 20∧w=wr) (fun _ _ _=>0)
 case atStart=>exact ⟨rfl,rfl,rfl⟩
 case round=>
  obtain ⟨rfl,rfl,rfl⟩:=hrel;go_wp2_with fail;refine (Zz9u A c fv w).mono ?_;rintro e w1 ⟨rfl,rfl⟩;go_wp2_with fail;go_loopw [6] (fun a wr=>a= .int .i64 20∧w=wr) (fun _ _=>0)
  case atStart=>exact ⟨rfl,rfl⟩
  case round=>
   obtain ⟨rfl,rfl⟩:=hrel;go_wp2_with fail;go_end0
   exact ⟨rfl,rfl⟩
theorem Zz4e (A:Option Addr) (c:Nat) (fv:Value) (w:World):
  Calls Tryz.prog 103 #[.slice A 0 c,fv] w fun e w'=>e= .returned (.tuple #[])∧w=w':=by
 go_enter Tryz.func103,Tryz.ntmps103;go_wp2_with fail;refine (Zz9k A c fv w).mono ?_;rintro e w1 ⟨rfl,rfl⟩;go_wp2_with fail;go_end0
 exact ⟨rfl,rfl⟩
end Go.Proofs.YtnknjeipfjdjoaaGreatDoor
namespace Wells
open Go Go.RowKit
def nums (l:List Byte):List Int:=l.map fun b=>(b.toNat:Int)
theorem Zzga {a b:List Byte} (h:strOfNums (nums a)=strOfNums (nums b)):a=b:=by
 have h2:(strOfNums (nums a)).data.toList=(strOfNums (nums b)).data.toList:=by rw [h]
 rw [strOfNums_data,strOfNums_data] at h2;unfold nums at h2;rw [List.map_map,List.map_map] at h2;refine (List.map_inj_right ?_).1 h2;intro x y hxy;have h3:=congrArg UInt8.toNat hxy;simp [UInt8.toNat_ofNat'] at h3
 have hx:=x.isLt;have hy:=y.isLt;apply BitVec.eq_of_toNat_eq
 omega
theorem Sl.convert {P:Program} {w:World} {B n:Nat} {A:Option Addr} {l:List Byte} (h:Sl w B 1 A n (l.map bv8)) (c:Nat) (src e dst:TypeId)
  (hs:P.underlying src=some (.slice e)) (he:P.underlying e=some (.int .u8)) (hd:P.underlying dst=some .string):
  (Go.convert src dst (.slice A n c)).run P w= .ok (.string (strOfNums (nums l))) w:=by
 have hl:l.length=n:=by have:=h.len;simpa using this
 rcases Nat.eq_zero_or_pos n with hn | hn
 ·subst hn
  obtain rfl:l= []:=List.eq_nil_of_length_eq_zero hl;rw [run_convert_bytes_string w src dst e _ 0 c hs he hd];cases A <;> simp [Conv.bytesToString,loadCells]
  all_goals rfl
 ·obtain ⟨b,o,rfl,_,hc⟩:=h.at_ hn
  refine run_convert_bytes_arg (P:=P) w src e hs he b o n c (nums l) (by simp [nums,hl]) (fun i hi=> ?_) dst hd;have:=hc i (bv8 (l.getD i 0)) (by rw [List.getElem?_map,ZgE (show i < l.length by omega)];simp [show i < l.length by omega])
  rw [this];simp [nums,bv8,ZgD,List.getElem?_map,ZgE (show i < l.length by omega)]
end Wells
namespace Go.Proofs.YtnknjeipfjdjoaaGreatDoor
open Go.RowKit Wells
theorem Zz1w (r:Bool) (B:Nat) (A A':Option Addr) (l l':List Byte) (n n' c c':Nat) (w:World) (h:Sl w B 1 A n (l.map bv8)) (h':Sl w B 1 A' n' (l'.map bv8)) (hr:decide (l=l')=r):
  Calls Tryz.prog 56 #[.slice A n c,.slice A' n' c'] w fun e w'=>e= .returned (.bool r)∧w=w':=by
 have k1:=h.convert (P:=Tryz.prog) c 33 5 9 Tryz.underlying33 Tryz.underlying5 Tryz.underlying9;have k2:=h'.convert (P:=Tryz.prog) c' 33 5 9 Tryz.underlying33 Tryz.underlying5 Tryz.underlying9;clear h h';have hb:((strOfNums (nums l)).toList==(strOfNums (nums l')).toList)=r:=by
  rw [← hr];by_cases h:l=l'
  ·subst h;simp
  ·have:(strOfNums (nums l)).toList≠(strOfNums (nums l')).toList:=fun e=>h (Zzga (by rw [Lib.strOfNums_toList,Lib.strOfNums_toList] at e;unfold Lib.bytesOf at e;unfold strOfNums;rw [e]))
   simp [h,this]
 obtain ⟨s1,hs1⟩:∃ s,strOfNums (nums l)=s:=⟨_,rfl⟩;obtain ⟨s2,hs2⟩:∃ s,strOfNums (nums l')=s:=⟨_,rfl⟩;rw [hs1] at k1;rw [hs2] at k2;rw [hs1,hs2] at hb;have HB:=hid hb;clear hb hs1 hs2 hr;go_enter Tryz.func56,Tryz.ntmps56;go_wp2_with fail;go_ret
 exact ⟨Zz0a HB.out,rfl⟩
theorem Zz3f (B:Nat) (A:Option Addr) (l:List Byte) (n c:Nat) (w:World) (h:Sl w B 1 A n (l.map bv8)) (hB:B≤w.heap.size) (hn:n≤1048576):
  Calls Tryz.prog 75 #[.slice A n c] w fun e w'=>∃ v,e= .returned v∧OB w.heap.size w' v l∧Below w.heap.size w w':=by
 have HL:=hid (show l.length=n by have:=h.len;simpa using this);obtain ⟨i0,hi,hz0,hz1,hz2⟩:=info_parts infoB;have kq:∀ (w:World) (a:Option Addr) (n c n' c':Nat),(binOp .eql 33 (.slice a n c) (.slice none n' c')).run Tryz.prog w= .ok (.bool a.isNone) w:=fun w a n c n' c'=>Lib.run_eql_slice_nil w _ _ a n c n' c' Tryz.underlying33
 cases A with
 | none=>
  have hn0:n=0:=by
   rcases Nat.eq_zero_or_pos n with hn | hn
   ·exact hn
   ·obtain ⟨b,o,e,_⟩:=h.at_ hn;cases e
  subst hn0;obtain rfl:l= []:=List.eq_nil_of_length_eq_zero HL.out;go_enter Tryz.func75,Tryz.ntmps75;go_wp2_with fail;go_ret
  exact ⟨_,rfl,World.ownsRow_nil _ _ _ _,Below.refl _ _⟩
 | some a=>
  have ow:(w.alloc (.cells #[] 5)).ownsRow w.heap.size 5 1 (.slice (some ⟨w.heap.size,0,none⟩) 0 0) 0 []:=World.ownsRow_made w #[] 0 (ZnR _) (Nat.zero_le _) rfl;have bw:Below w.heap.size w (w.alloc (.cells #[] 5)):=(Below.refl _ _).alloc (ZnR _) _;go_enter Tryz.func75,Tryz.ntmps75;go_wp2_with (at_builtin;go_must (refine Zz03 rfl (.tmp 5) (.tmp 6) 33 rfl w.heap.size 5 i0 (.int .u8 0) 1 1 Tryz.underlying33 hi hz0 hz1 hz2 rfl (by omega) _ 0 [] rfl ow w.heap.size (some a) n c _ rfl ((h.mono hB).below bw) (Zz0v _) n (by omega) (l.map bv8) rfl (by omega) (by omega) bw.size ?_);intro A2 c2 w2 o2 g2 _)
  go_ret
  exact ⟨_,rfl,by unfold OB;rw [HL.out];exact o2,Zz04 bw ow g2 (ZnR _) bw.size⟩
end Go.Proofs.YtnknjeipfjdjoaaGreatDoor
namespace Wells
open Go Go.RowKit
def iv (z:Int):Value:= .int .i64 z
end Wells
namespace Go.Proofs.YtnknjeipfjdjoaaGreatDoor
open Go.RowKit Wells
theorem Zz45 (l:List Int) (k:Nat) (h:k < l.length):(l.map iv)[k]? =some (.int .i64 (l.getD k 0)):=by
 rw [List.getElem?_map,ZgE h];simp [h,iv]
def RI (w:World) (B:Nat) (v:Value) (l:List Int):Prop:=∃ A c,v= .slice A l.length c∧l.length≤c∧c≤9223372036854775807∧Sl w B 1 A l.length (l.map iv)
theorem RI.keep {w w':World} {B:Nat} {v:Value} {l:List Int} (h:RI w B v l) (hb:Below B w w'):RI w' B v l:=by
 obtain ⟨A,c,e,h1,h2,h3⟩:=h;exact ⟨A,c,e,h1,h2,h3.below hb⟩
theorem RI.mono {w:World} {B B':Nat} {v:Value} {l:List Int} (h:RI w B v l) (hb:B≤B'):RI w B' v l:=by
 obtain ⟨A,c,e,h1,h2,h3⟩:=h;exact ⟨A,c,e,h1,h2,h3.mono hb⟩
def OI (base:Nat) (w:World) (v:Value) (l:List Int):Prop:=w.ownsRow base 3 1 v l.length (l.map iv)
theorem OI.read {base:Nat} {w:World} {v:Value} {l:List Int} (h:OI base w v l):RI w w.heap.size v l:=Zz0h h
theorem OI.below {base:Nat} {w w':World} {v:Value} {l:List Int} (h:OI base w v l) (hb:Below w.heap.size w w'):OI base w' v l:=
 h.kept (Zz02 hb none) (by cases v.ownBlock <;> simp)
def eqC (ps:List (Value×Value)):List Value:=ps.flatMap fun p=> [p.1,p.2]
theorem Zzfz:∀ (ps:List (Value×Value)) (k:Nat),k < ps.length→(eqC ps)[k*2]? =some (ps.getD k (undef,undef)).1∧(eqC ps)[k*2+1]? =some (ps.getD k (undef,undef)).2
 | [],k,h=>absurd h (by simp)
 | p::ps,0,_=>⟨rfl,rfl⟩
 | p::ps,k+1,h=>by
  have:=Zzfz ps k (by simpa using h)
  unfold eqC at this ⊢;rw [List.flatMap_cons,show (k+1)*2=k*2+2 by omega,show k*2+2+1=(k*2+1)+2 by omega];exact ⟨by rw [List.getElem?_append_right (by simp)];simpa using this.1,by rw [List.getElem?_append_right (by simp)];simpa using this.2⟩
def EqV (w:World) (B:Nat) (p:Value×Value) (q:Eqn):Prop:=RI w B p.1 q.cols∧RB w B p.2 q.data
structure REqs (w:World) (B:Nat) (A:Option Addr) (n:Nat) (ps:List (Value×Value)) (rows:List Eqn):Prop where
 sl:Sl w B 2 A n (eqC ps)
 pl:ps.length=n
 len:rows.length=n
 at_:∀ i,i < n→EqV w B (ps.getD i (undef,undef)) (rows.getD i default)
section
variable {w w':World} {B B' n:Nat} {A:Option Addr} {ps:List (Value×Value)} {rows:List Eqn}
theorem EqV.keep {p:Value×Value} {q:Eqn} (h:EqV w B p q) (hb:Below B w w'):EqV w' B p q:=⟨h.1.keep hb,h.2.keep hb⟩
theorem EqV.mono {p:Value×Value} {q:Eqn} (h:EqV w B p q) (hb:B≤B'):EqV w B' p q:=⟨h.1.mono hb,h.2.mono hb⟩
theorem REqs.below (h:REqs w B A n ps rows) (hb:Below B w w'):REqs w' B A n ps rows:=⟨h.sl.below hb,h.pl,h.len,fun i hi=>(h.at_ i hi).keep hb⟩
theorem REqs.mono (h:REqs w B A n ps rows) (hb:B≤B'):REqs w B' A n ps rows:=⟨h.sl.mono hb,h.pl,h.len,fun i hi=>(h.at_ i hi).mono hb⟩
theorem REqs.nil_:REqs w B A 0 [] []:=⟨⟨rfl,fun h=>absurd h (by omega)⟩,rfl,rfl,fun i hi=>absurd hi (by omega)⟩
theorem REqs.get (h:REqs w B A n ps rows) {k:Nat} (hk:k < n):
  ∃ b o A1 c1 A2 c2,A=some ⟨b,o,none⟩∧b < B∧w.cell? ⟨b,o+k*2,none⟩=some (.slice A1 (rows.getD k default).cols.length c1)∧w.cell? ⟨b,o+k*2+1,none⟩=some (.slice A2 (rows.getD k default).data.length c2)∧
   (rows.getD k default).cols.length≤c1∧c1≤9223372036854775807∧Sl w B 1 A1 (rows.getD k default).cols.length ((rows.getD k default).cols.map iv)∧
   (rows.getD k default).data.length≤c2∧c2≤9223372036854775807∧Sl w B 1 A2 (rows.getD k default).data.length ((rows.getD k default).data.map bv8):=by
 obtain ⟨b,o,hA,hb,hc⟩:=h.sl.at_ (by omega);obtain ⟨g1,g2⟩:=Zzfz ps k (by rw [h.pl];exact hk);obtain ⟨⟨A1,c1,e1,h1,h2,h3⟩,A2,c2,e2,h4,h5,h6⟩:=h.at_ k hk;exact ⟨b,o,A1,c1,A2,c2,hA,hb,by rw [← e1];exact hc _ _ g1,by rw [← e2,Nat.add_assoc];exact hc _ _ g2,h1,h2,h3,h4,h5,h6⟩
end
def KI (base:Nat) (w:World) (v:Value) (l:List Int):Prop:=RI w base v l∨OI base w v l
def KB (base:Nat) (w:World) (v:Value) (l:List Byte):Prop:=RB w base v l∨OB base w v l
section
variable {base:Nat} {w w':World} {v v':Value} {ps:List (Value×Value)} {rows:List Eqn} {l:List Int} {s:List Byte}
theorem KI.below (h:KI base w v l) (hb:Below w.heap.size w w') (hs:base≤w.heap.size):KI base w' v l:=h.elim (fun h=> .inl (h.keep (hb.mono hs))) (fun h=> .inr (h.below hb))
theorem KB.below (h:KB base w v s) (hb:Below w.heap.size w w') (hs:base≤w.heap.size):KB base w' v s:=h.elim (fun h=> .inl (h.keep (hb.mono hs))) (fun h=> .inr (h.below hb))
theorem KI.read (h:KI base w v l) (hs:base≤w.heap.size):RI w w.heap.size v l:=h.elim (fun h=>h.mono hs) (fun h=>h.read)
theorem KB.read (h:KB base w v s) (hs:base≤w.heap.size):RB w w.heap.size v s:=h.elim (fun h=>h.mono hs) (fun h=>h.read)
theorem KI.grown {row:Option Nat} (h:KI base w v l) (hg:w.grownBy w' row) (hr:∀ k,row=some k→base≤k) (hs:base≤w.heap.size) (hne:∀ h:OI base w v l,v.ownBlock=none∨v.ownBlock≠row):KI base w' v l:=
 h.elim (fun h=> .inl (h.keep ((Below.refl _ _).grown hg hs hr))) (fun h=> .inr (World.ownsRow.kept h hg (hne h)))
theorem KB.grown {row:Option Nat} (h:KB base w v s) (hg:w.grownBy w' row) (hr:∀ k,row=some k→base≤k) (hs:base≤w.heap.size) (hne:∀ h:OB base w v s,v.ownBlock=none∨v.ownBlock≠row):KB base w' v s:=
 h.elim (fun h=> .inl (h.keep ((Below.refl _ _).grown hg hs hr))) (fun h=> .inr (World.ownsRow.kept h hg (hne h)))
end
theorem Zzdn (B:Nat) (A:Option Addr) (l:List Byte) (n c:Nat) (w:World) (h:Sl w B 1 A n (l.map bv8)) (hB:B≤w.heap.size) (hn:n≤70368744177664):
  Calls Tryz.prog 9 #[.slice A n c] w fun e w'=>∃ A' c',e= .returned (.slice A' n c')∧OB w.heap.size w' (.slice A' n c') l∧Below w.heap.size w w':=by
 have HL:=hid (show l.length=n by have:=h.len;simpa using this);obtain ⟨i0,hi,hz0,hz1,hz2⟩:=info_parts infoB;go_enter Tryz.func9,Tryz.ntmps9;go_wp2_with (first
  | (at_make;refine Zz7g _ rfl (.const (.int .i64 0)) (.tmp 6) 33 rfl 5 i0 (.int .u8 0) 1 Tryz.underlying33 hi hz0 hz1 hz2 rfl .i64 .i64 _ _ 0 (n+2) rfl rfl rfl (by omega) (by omega) (by omega) (by omega) ?_;intro w1 r1 b1 s1;have o1:=r1.own (base:=w.heap.size) (size:=1) (n:=0) (cap:=n+2) (ZnR _) (by omega) (by unfold maxLen;omega) (by simp))
  | (at_builtin;go_must (refine Zz03 rfl (.tmp 8) (.tmp 9) 33 rfl w.heap.size 5 i0 (.int .u8 0) 1 1 Tryz.underlying33 hi hz0 hz1 hz2 rfl (by omega) _ 0 [] rfl o1 B A n c _ rfl (h.below (b1.mono hB)) (Zz0v _) n (by omega) (l.map bv8) rfl (by omega) (by omega) b1.size ?_);intro A2 c2 w2 o2 g2 _))
 go_ret
 exact ⟨A2,c2,rfl,by unfold OB;rw [HL.out];exact o2,Zz04 b1 o1 g2 (ZnR _) b1.size⟩
end Go.Proofs.YtnknjeipfjdjoaaGreatDoor
