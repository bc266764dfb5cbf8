/- Words Row8 CrcMath CellMath OpMake Bits PeelMath Scope2 Zeros -/
import Derived.WalkKit
import Derived.Laws.CopyOwn
import Derived.Deep.Draws
import Derived.OwnWalk
import Derived.Maps.AppendAt
import Derived.Deep.AppendLies
import Derived.Great.BuildSlice
import Derived.Laws.BitsAllLaws
import Derived.ScopeJumps
import Derived.WalkMore
set_option maxHeartbeats 8000000
set_option maxRecDepth 20000
set_option linter.unusedSimpArgs false
set_option linter.unusedVariables false
set_option linter.unusedSectionVars false
namespace Wells
open Go Go.RowKit
theorem hid {p:Prop} (h:p):Hid p:=h
abbrev Byte:=BitVec 8
def bv8 (b:Byte):Value:= .int .u8 (b.toNat:Int)
theorem Zz0m (b o k:Nat):(⟨b,o,none⟩:Addr).add k=⟨b,o+k,none⟩:=by
 unfold Addr.add;split
 ·rename_i h;subst h;rfl
 ·rfl
/-- a slice of n elements, of 'size' cells each, has the cells xs, in a block below B -/
structure Sl (w:World) (B size:Nat) (A:Option Addr) (n:Nat) (xs:List Value):Prop where
 len:xs.length=n*size
 at_:0 < n→∃ b o,A=some ⟨b,o,none⟩∧b < B∧∀ j u,xs[j]? =some u→w.cell? ⟨b,o+j,none⟩=some u
section
variable {w w':World} {B B' size n:Nat} {A:Option Addr} {xs:List Value}
theorem Sl.nil_:Sl w B size A 0 []:=⟨by simp,fun h=>absurd h (by omega)⟩
theorem Sl.keep (h:Sl w B size A n xs) (hk:∀ b o,b < B→w'.cell? ⟨b,o,none⟩=w.cell? ⟨b,o,none⟩):Sl w' B size A n xs:=
 ⟨h.len,fun hn=>by
  obtain ⟨b,o,e,hb,hc⟩:=h.at_ hn;exact ⟨b,o,e,hb,fun j u hu=>(hk _ _ hb).trans (hc j u hu)⟩⟩
theorem Sl.mono (h:Sl w B size A n xs) (hB:B≤B'):Sl w B' size A n xs:=
 ⟨h.len,fun hn=>by
  obtain ⟨b,o,e,hb,hc⟩:=h.at_ hn;exact ⟨b,o,e,by omega,hc⟩⟩
theorem Sl.below (h:Sl w B size A n xs) (hb:Below B w w'):Sl w' B size A n xs:=h.keep fun b o hp=>hb.cell (p:=⟨b,o,none⟩) hp
theorem Sl.drew (h:Sl w B size A n xs):Sl w.drew B size A n xs:=h.keep fun _ _ _=>rfl
theorem Sl.drewN (h:Sl w B size A n xs) (d:Nat):Sl (w.drewN d) B size A n xs:=h.keep fun _ _ _=>rfl
theorem Sl.get (h:Sl w B 1 A n xs) {k:Nat} (hk:k < n) {u:Value} (hu:xs[k]? =some u):∃ b o,A=some ⟨b,o,none⟩∧b < B∧w.cell? ⟨b,o+k,none⟩=some u:=by
 obtain ⟨b,o,e,hb,hc⟩:=h.at_ (by omega);exact ⟨b,o,e,hb,hc k u hu⟩
/-- 's[k:m]' -/
theorem Sl.cut (h:Sl w B size A n xs) {k m c:Nat} (hkm:k≤m) (hm:m≤n) (hc:m≤c):
  Sl w B size (if c=k then A else A.map (·.add (k*size))) (m - k) ((xs.drop (k*size)).take ((m - k)*size)):=by
 have hl:=h.len;have h1:(m - k)*size=m*size - k*size:=Nat.sub_mul _ _ _;have h2:m*size≤n*size:=Nat.mul_le_mul_right _ hm;refine ⟨by rw [List.length_take,List.length_drop];omega,fun hn=> ?_⟩;obtain ⟨b,o,rfl,hb,hcell⟩:=h.at_ (by omega);rw [if_neg (by omega)];refine ⟨b,o+k*size,by simp [Zz0m],hb,fun j u hu=> ?_⟩;rw [List.getElem?_take] at hu;split at hu
 ·rw [List.getElem?_drop] at hu
  have:=hcell _ u hu
  rwa [show o+k*size+j=o+(k*size+j) by omega]
 ·cases hu
theorem Sl.take (h:Sl w B size A n xs) {m:Nat} (hm:m≤n):Sl w B size A m (xs.take (m*size)):=by
 have hl:=h.len;have h2:m*size≤n*size:=Nat.mul_le_mul_right _ hm;refine ⟨by rw [List.length_take];omega,fun hn=> ?_⟩;obtain ⟨b,o,rfl,hb,hcell⟩:=h.at_ (by omega);refine ⟨b,o,rfl,hb,fun j u hu=> ?_⟩;rw [List.getElem?_take] at hu;split at hu
 ·exact hcell _ u hu
 ·cases hu
end
/-- block g is just the cells cs of the element type t, none frozen -/
def Row (w:World) (g:Nat) (t:TypeId) (cs:List Value):Prop:=w.heap[g]? =some (.cells cs.toArray t (0,0))
section
variable {w w':World} {g:Nat} {t:TypeId} {cs:List Value}
theorem Row.lt (h:Row w g t cs):g < w.heap.size:=by
 rcases Nat.lt_or_ge g w.heap.size with hlt | hge
 ·exact hlt
 ·unfold Row at h;rw [Array.getElem?_eq_none hge] at h;cases h
theorem Row.cell (h:Row w g t cs) (i:Nat):w.cell? ⟨g,i,none⟩=cs[i]? :=by
 have:=cell_of_row w g i cs.toArray t (0,0) h
 simpa using this
theorem Row.frozen (h:Row w g t cs) (i:Nat):w.frozen? ⟨g,i,none⟩=false:=by
 unfold Row at h;simp [World.frozen?,h]
theorem Row.drew (h:Row w g t cs):Row w.drew g t cs:=h
theorem Row.drewN (h:Row w g t cs) (n:Nat):Row (w.drewN n) g t cs:=h
theorem Row.alloc (h:Row w g t cs) (o:Obj):Row (w.alloc o) g t cs:=(Below.heap_alloc w o g h.lt).trans h
theorem Row.new (w:World) (t:TypeId) (cs:Array Value):Row (w.alloc (.cells cs t)) w.heap.size t cs.toList:=by
 unfold Row;exact heap_alloc_new w _
theorem Row.set (h:Row w g t cs) (i:Nat) (u:Value):Row (w.setCell ⟨g,i,none⟩ u) g t (cs.set i u):=by
 unfold Row at h ⊢;simp [World.setCell,Array.getElem?_modify,h]
theorem Row.far (h:Row w g t cs) {p:Addr} (hp:g≠p.block) (u:Value):Row (w.setCell p u) g t cs:=(Below.heap_setCell w p u g hp).trans h
theorem Row.below {B:Nat} (h:Row w g t cs) (hb:Below B w w') (hg:g < B):Row w' g t cs:=(hb.block g hg).trans h
theorem Row.grown {row:Option Nat} (h:Row w g t cs) (hb:w.grownBy w' row) (hg:some g≠row):Row w' g t cs:=(hb.block g h.lt hg).trans h
theorem Row.to {cs':List Value} (h:Row w g t cs) (e:cs=cs'):Row w g t cs':=e ▸ h
theorem Row.sl (h:Row w g t cs) {B m:Nat} (hB:g < B) (hm:m≤cs.length):Sl w B 1 (some ⟨g,0,none⟩) m (cs.take m):=
 ⟨by simp [hm],fun _=>⟨g,0,rfl,hB,fun j u hu=>by
  rw [Nat.zero_add,h.cell];rw [List.getElem?_take] at hu;split at hu
  ·exact hu
  ·cases hu⟩⟩
theorem Row.own {base size n cap:Nat} (h:Row w g t cs) (hb:base≤g) (hn:n≤cap) (hc:cap≤maxLen) (hs:cs.length=cap*size):
  w.ownsRow base t size (.slice (some ⟨g,0,none⟩) n cap) n (cs.take (n*size)):=by
 refine ⟨?_,.inr ⟨g,cap,cs.toArray,rfl,hb,h,hn,hc,by simpa using hs,by simp⟩⟩;rw [List.length_take,hs];have:=Nat.mul_le_mul_right size hn
 omega
end
theorem Sl.fresh (w:World) (cs:List Value) (t:TypeId) (fr:Nat×Nat) (m:Nat) (hm:cs.length=m):Sl (w.alloc (.cells cs.toArray t fr)) (w.heap.size+1) 1 (some ⟨w.heap.size,0,none⟩) m cs:=
 ⟨by omega,fun _=>⟨_,0,rfl,by omega,fun j u hu=>by
  rw [Nat.zero_add,cell_of_row _ _ j cs.toArray t fr (heap_alloc_new w _)];simpa using hu⟩⟩
theorem Zz6g {w w':World} {g B:Nat} {w0:World} (h:Below B w0 w) (hg:w.grownBy w' (some g)) (hB:B≤g) (hs:B≤w.heap.size):Below B w0 w':=
 h.grown hg hs (fun k hk=>by injection hk with hk;omega)
theorem Zz0z {k:IntKind} {a b:Int} (h:a=b):Ending.returned (.int k a)= .returned (.int k b):=by rw [h]
theorem Zz0a {a b:Bool} (h:a=b):Ending.returned (.bool a)= .returned (.bool b):=by rw [h]
theorem Zzf8 {A:Option Addr} {n m c:Nat} (h:m=n):Ending.returned (.slice A n c)= .returned (.slice A m c):=by rw [h]
/-- 'make([]T, l, c)': elements of one cell; the world behind it is a variable -/
theorem Zz7g {P:Program} (w:World) {ops:Array Oper} {rest:List Oper} {o:Oper} {a:Act} {Q:Exit→Act→World→Prop}
  (hg:o.guard=none) (l c:Operand) (t:TypeId) (hop:o.op=Op.makeSlice t l c)
  (e:TypeId) (i:TypeInfo) (z:Value) (bytes:Nat) (h1:P.underlying t=some (.slice e)) (h2:P.info? e=some i) (h3:i.zero=some z) (h4:i.size=1) (h5:i.bytes=bytes) (hz:z.cells= #[z])
  (kl kc:IntKind) (L C:Int) (n m:Nat) (hl:a.eval l= .int kl L) (hc:a.eval c= .int kc C) (hL:L=(n:Int)) (hC:C=(m:Int)) (hnm:n≤m) (b2:bytes*m≤281474976710656) (b3:m≤9223372036854775807)
  (hK:∀ w',Row w' w.heap.size e (List.replicate m z)→Below w.heap.size w w'→w'.heap.size=w.heap.size+1→wpList P ops Q rest (a.put o.dst (.slice (some ⟨w.heap.size,0,none⟩) n m)) w'):
  wpList P ops Q (o::rest) a w:=by
 refine wpList_plain hg fun K hK'=> ?_
 subst h5 hL hC;have hbb:(i.bytes:Int)*(m:Int)≤281474976710656:=by
  have h:((i.bytes*m:Nat):Int)≤281474976710656:=by omega
  rwa [Int.natCast_mul] at h
 have hrun:=run_make (P:=P) w t e i z h1 h2 h3 kl kc n m (by omega) (by omega) hbb (by omega);simp only [Int.toNat_natCast,h4,Nat.mul_one,hz] at hrun;unfold Oper.wp;simp [execOp,hop,hl,hc,hrun,Result.andThen]
 refine hK' _ _ (hK _ ?_ ((Below.refl _ _).alloc (Nat.le_refl _) _) (by simp));have:=Row.new w e (madeCells #[z] m)
 rwa [toList_madeCells_one] at this
/-- 'copy(dst, src)' into a row that is known whole -/
theorem Zzbz {P:Program} {w:World} {ops:Array Oper} {rest:List Oper} {o:Oper} {a:Act} {Q:Exit→Act→World→Prop} (hgd:o.guard=none) (d s:Operand) (dT sT:TypeId)
  (ho:o.op= .call { callee:= .builtin .copy,args:= #[d,s],argTypes:= #[dT,sT]}) (elem:TypeId) (hu:P.underlying dT=some (.slice elem)) (hsz:(P.info? elem).map (·.size)=some 1)
  (dp A:Option Addr) (dLen dCap n sCap:Nat) (hd:a.eval d= .slice dp dLen dCap) (hs:a.eval s= .slice A n sCap)
  (g off:Nat) (cur:List Value) (t:TypeId) (hg:Row w g t cur) (B:Nat) (xs:List Value) (hx:Sl w B 1 A n xs)
  (hpos:0 < min n dLen→dp=some ⟨g,off,none⟩) (hfit:off+min n dLen≤cur.length) (h1:∀ v∈xs,v.oneCell'=true)
  (h:∀ w',Row w' g t (splice cur off (xs.take dLen))→w.grownBy w' (some g)→wpList P ops Q rest (a.put o.dst (goInt ((min n dLen:Nat):Int))) w'):
  wpList P ops Q (o::rest) a w:=by
 have hl:(xs.take dLen).length=min n dLen:=by rw [List.length_take,hx.len];omega
 by_cases h0:min n dLen=0
 ·refine wpList_copy_nothing hgd d s dT sT ho elem hu hsz dp A dLen dCap n sCap hd hs (by show min n dLen=0;exact h0) ?_
  have he:xs.take dLen= []:=List.eq_nil_of_length_eq_zero (by rw [hl,h0]);rw [he] at h;have:=h w (by simpa [splice] using hg) (World.grownBy.refl w _)
  rwa [h0] at this
 ·have hxs:=hx.at_ (by omega)
  obtain ⟨b,o',rfl,_,hc⟩:=hxs;have hdp:=hpos (by omega);subst hdp;refine wpList_copy_own hgd d s dT sT ho elem hu hsz g off dLen dCap ⟨b,o',none⟩ n sCap hd hs cur.toArray t hg (xs.take dLen) (by rw [hl]) ?_ (by rw [hl];exact hfit) (fun v hv=>h1 v (List.mem_of_mem_take hv)) ?_
  ·intro j v hv
   rw [Zz0m];rw [List.getElem?_take] at hv;split at hv
   ·exact hc j v hv
   ·cases hv
  ·rw [hl]
   refine h _ ?_ ?_
   ·have:=setRow_heap w g cur.toArray (splice cur off (xs.take dLen)).toArray t _ hg
    simpa [splice,hl,Row] using this
   ·exact ⟨rfl,rfl,rfl,by simp [World.setRow],fun k hk hne=>setRow_other w g k _ (fun e=>hne (by rw [e]))⟩
theorem Zz0h {w:World} {base:Nat} {e:TypeId} {size n:Nat} {v:Value} {xs:List Value} (h:w.ownsRow base e size v n xs):
  ∃ A c,v= .slice A n c∧n≤c∧c≤9223372036854775807∧Sl w w.heap.size size A n xs:=by
 have hl:=h.1;rcases h.2 with ⟨rfl,rfl⟩ | ⟨g,cap,cur,rfl,hb,hg,hn,hc,hs,ht⟩
 ·have:xs= []:=List.eq_nil_of_length_eq_zero (by simpa using hl)
  subst this;exact ⟨none,0,rfl,Nat.le_refl _,by omega,Sl.nil_⟩
 ·refine ⟨_,cap,rfl,hn,by unfold maxLen at hc;omega,hl,fun h0=>⟨g,0,rfl,(Array.getElem?_eq_some_iff.1 hg).1,fun j u hu=> ?_⟩⟩
  rw [Nat.zero_add,cell_of_row w g j cur e (0,0) hg];rw [← ht,List.getElem?_take] at hu;split at hu
  ·simpa using hu
  ·cases hu
theorem Sl.own {w:World} {base:Nat} {e:TypeId} {size n c:Nat} {A:Option Addr} {xs:List Value} (h:w.ownsRow base e size (.slice A n c) n xs):Sl w w.heap.size size A n xs:=by
 obtain ⟨A',c',he,_,_,hs⟩:=Zz0h h;injection he with e1 _ e2;subst e1;exact hs
theorem Zz14 {w:World} {base:Nat} {e:TypeId} {size n c:Nat} {A:Option Addr} {xs:List Value} (h:w.ownsRow base e size (.slice A n c) n xs):n≤c∧c≤9223372036854775807:=by
 obtain ⟨A',c',he,h1,h2,_⟩:=Zz0h h;injection he with e1 _ e2;subst e2;exact ⟨h1,h2⟩
theorem Zz7u {w:World} {base:Nat} {e:TypeId} {size n c:Nat} {A:Option Addr} {xs:List Value} (h:w.ownsRow base e size (.slice A n c) n xs):
  (A=none∧n=0∧c=0)∨∃ g,A=some ⟨g,0,none⟩∧base≤g∧g < w.heap.size:=by
 rcases h.2 with ⟨hv,h0⟩ | ⟨g,cap,cur,hv,hb,hg,_⟩
 ·injection hv with e1 e2 e3
  exact .inl ⟨e1,e2,e3⟩
 ·injection hv with e1 e2 e3
  exact .inr ⟨g,e1,hb,(Array.getElem?_eq_some_iff.1 hg).1⟩
theorem Zz2q {w:World} {base:Nat} {e:TypeId} {size n:Nat} {v:Value} {xs:List Value} (h:w.ownsRow base e size v n xs):∀ k,v.ownBlock=some k→base≤k∧k < w.heap.size:=h.lt
/-- below the base nothing turns while an owned row grows -/
theorem Zz04 {B base:Nat} {w0 w w':World} {e:TypeId} {size n:Nat} {v:Value} {xs:List Value} (hb:Below B w0 w) (h:w.ownsRow base e size v n xs) (hg:w.grownBy w' v.ownBlock) (hB:B≤base) (hs:B≤w.heap.size):Below B w0 w':=
 hb.grown hg hs fun k hk=>Nat.le_trans hB (h.lt k hk).1
theorem Zz2l {P:Program} (w:World) {base:Nat} (t ty e:TypeId) (i:TypeInfo) {size:Nat} (ht:P.underlying t=some (.slice e)) (hi:P.info? e=some i)
  {v:Value} {n:Nat} {xs:List Value} (hown:w.ownsRow base e size v n xs) (c:Nat):(Builtin.append_ #[t,t] ty #[v,.slice none 0 c]).run P w= .ok v w:=by
 rcases hown.2 with ⟨rfl,rfl⟩ | ⟨g,cap,cur,rfl,_,_,hnc,_⟩
 ·simp [Builtin.append_,run_underlying ht,Go.sizeOf,typeInfo,hi,Builtin.lenOf,Builtin.firstCells]
 ·simp [Builtin.append_,run_underlying ht,Go.sizeOf,typeInfo,hi,Builtin.lenOf,Builtin.firstCells,hnc,storeCells]
/-- 'out = append(out, xs...)': out nil or the call's own; the source a slice that reads, nil or not -/
theorem Zz03 {P:Program} {w:World} {ops:Array Oper} {rest:List Oper} {o:Oper} {a:Act} {Q:Exit→Act→World→Prop} (hgd:o.guard=none) (s x:Operand) (t:TypeId)
  (ho:o.op= .call { callee:= .builtin .append,args:= #[s,x],argTypes:= #[t,t]})
  (base:Nat) (e:TypeId) (i:TypeInfo) (z:Value) (size bytes:Nat) (ht:P.underlying t=some (.slice e)) (hi:P.info? e=some i) (hz:i.zero=some z)
  (hsize:i.size=size) (hby:i.bytes=bytes) (hzs:z.cells.size=size) (hsz:0 < size)
  (v:Value) (n:Nat) (xs:List Value) (hs:a.eval s=v) (hown:w.ownsRow base e size v n xs)
  (B:Nat) (A:Option Addr) (m c:Nat) (news:List Value) (hx:a.eval x= .slice A m c) (hr:Sl w B size A m news) (h1:∀ u∈news,u.oneCell'=true)
  (N:Nat) (hN:n+m=N) (ys:List Value) (hys:xs++news=ys) (h63:N≤9223372036854775807) (hbytes:N*bytes≤140737488355328) (hbase:base≤w.heap.size)
  (h:∀ A' c' w',w'.ownsRow base e size (.slice A' N c') N ys→w.grownBy w' v.ownBlock→((Value.slice A' N c').ownBlock=v.ownBlock∨(Value.slice A' N c').ownBlock=some w.heap.size)→
   wpList P ops Q rest (a.put o.dst (.slice A' N c')) w'):wpList P ops Q (o::rest) a w:=by
 subst hN hys;have key:∃ v' w',(Builtin.append_ #[t,t] o.type #[v,.slice A m c]).run P w= .ok v' w'∧w'.ownsRow base e size v' (n+m) (xs++news)∧w.grownBy w' v.ownBlock∧(v'.ownBlock=v.ownBlock∨v'.ownBlock=some w.heap.size):=by
  rcases A with _ | ad
  ·have hm:m=0:=by
    rcases Nat.eq_zero_or_pos m with h0 | h0
    ·exact h0
    ·obtain ⟨_,_,hh,_⟩:=hr.at_ h0
     cases hh
   subst hm;have hn:news= []:=List.eq_nil_of_length_eq_zero (by simpa using hr.len);subst hn;exact ⟨v,w,Zz2l w t o.type e i ht hi hown c,by simpa using hown,World.grownBy.refl w _,.inl rfl⟩
  ·have hcells:∀ j u,news[j]? =some u→w.cell? (ad.add j)=some u:=by
    intro j u hu;rcases Nat.eq_zero_or_pos m with h0 | h0
    ·subst h0
     have hn:news= []:=List.eq_nil_of_length_eq_zero (by simpa using hr.len);subst hn;simp at hu
    ·obtain ⟨b,o',hh,_,hc⟩:=hr.at_ h0
     injection hh with hh;subst hh;rw [Zz0m];exact hc j u hu
   obtain ⟨v',w',hrun,h2,h3,_,h5⟩:=run_append_own_at (P:=P) w base t o.type e i z size bytes ht hi hz hsize hby hzs hsz v n xs hown ad m c news hr.len hcells h1 (by unfold maxLen;omega) hbytes hbase;exact ⟨v',w',hrun,h2,h3,h5⟩
 obtain ⟨v',w',hrun,h2,h3,h4⟩:=key;obtain ⟨A',c',rfl,_⟩:=Zz0h h2;refine wpList_plain hgd fun K hK=> ?_
 unfold Oper.wp execOp;simp only [ho,resolve,invoke,builtin,Sem.run_bind,Sem.run_pure,Result.andThen_ok,List.map_toArray,List.map_cons,List.map_nil,hs,hx,hrun];exact hK _ _ (h A' c' w' h2 h3 h4)
theorem Row.c8 {w:World} {g:Nat} {t:TypeId} {a0 a1 a2 a3 a4 a5 a6 a7:Value} (h:Row w g t [a0,a1,a2,a3,a4,a5,a6,a7]):
  w.cell? ⟨g,0,none⟩=some a0∧w.cell? ⟨g,1,none⟩=some a1∧w.cell? ⟨g,2,none⟩=some a2∧w.cell? ⟨g,3,none⟩=some a3∧w.cell? ⟨g,4,none⟩=some a4∧w.cell? ⟨g,5,none⟩=some a5∧w.cell? ⟨g,6,none⟩=some a6∧w.cell? ⟨g,7,none⟩=some a7:=
 ⟨h.cell 0,h.cell 1,h.cell 2,h.cell 3,h.cell 4,h.cell 5,h.cell 6,h.cell 7⟩
theorem ZnR (n:Nat):n≤n:=Nat.le_refl n
theorem ZnT {a b c:Nat} (h:a≤b) (h':b≤c):a≤c:=Nat.le_trans h h'
theorem ZgD {α:Type _} {l:List α} {i:Nat} {a:α}:l.getD i a=l[i]?.getD a:=List.getD_eq_getElem?_getD
theorem ZgE {α:Type _} {l:List α} {i:Nat} (h:i < l.length):l[i]? =some l[i]:=List.getElem?_eq_getElem h
theorem ZgS {α:Type _} {a:α} {i:Nat} {l:List α}:(a::l)[i+1]? =l[i]? :=List.getElem?_cons_succ
theorem ZgZ {α:Type _} {a:α} {l:List α}:(a::l)[0]? =some a:=List.getElem?_cons_zero
theorem ZtS {α:Type _} {i:Nat} {l:List α} (h:i < l.length):List.take (i+1) l=List.take i l++ [l[i]]:=List.take_succ_eq_append_getElem h
theorem ZtL {α:Type _} {l:List α} {i:Nat} (h:l.length≤i):List.take i l=l:=List.take_of_length_le h
end Wells
namespace Wells
def tb (s:BitVec 32):BitVec 32:=(s >>> 1) ^^^ (if s.getLsbD 0 then 0xedb88320#32 else 0#32)
def tn:Nat→BitVec 32→BitVec 32
 | 0,s=>s
 | n+1,s=>tn n (tb s)
def by8 (s:BitVec 32) (b:BitVec 8):BitVec 32:=tn 8 (s ^^^ b.setWidth 32)
def crcS (s:BitVec 32) (l:List (BitVec 8)):BitVec 32:=l.foldl by8 s
def crc (l:List (BitVec 8)):BitVec 32:= ~~~ (crcS (~~~ 0#32) l)
theorem Zzie (m:Nat):∀ (n:Nat) (s:BitVec 32),tn (m+n) s=tn n (tn m s):=by
 induction m with
 | zero=>intro n s;rw [Nat.zero_add];rfl
 | succ m ih=>intro n s;rw [Nat.succ_add];exact ih n (tb s)
def xr (a b:List (BitVec 8)):List (BitVec 8):=List.zipWith (· ^^^ ·) a b
def wd:List Bool→BitVec 32
 | []=>0#32
 | b::l=>(if b then 1#32 else 0#32) ^^^ (wd l <<< 1)
def le4 (c:BitVec 32):List (BitVec 8):= [c.setWidth 8,(c >>> 8).setWidth 8,(c >>> 16).setWidth 8,(c >>> 24).setWidth 8]
end Wells
namespace Wells
abbrev BL:=List (BitVec 8)
def pad (b:BL):BL:=b++List.replicate (55 - b.length) 0#8
def front (k:BitVec 8) (b:BL):BL:= [0x57#8,0x73#8,1#8,k]++pad b
def frame (k:BitVec 8) (b:BL):BL:=front k b++le4 (crc (front k b))++ [0xa5#8]
def cellL (kind:Int) (b:BL):BL:=if 1≤kind∧kind≤255∧b.length≤55 then frame (BitVec.ofNat 8 kind.toNat) b else []
def takeP (b:BL):Option (BitVec 8×BL):=
 if b.length=64∧cellL ((b.getD 3 0).toNat) ((b.drop 4).take 55)=b then some (b.getD 3 0,(b.drop 4).take 55) else none
theorem Zz9c {b:BL} (h:b.length≤55):(pad b).length=55:=by unfold pad;simp;omega
theorem Zzgc {b:BL} (h:b.length=55):pad b=b:=by unfold pad;simp [h]
theorem Zzam (c:BitVec 32):(le4 c).length=4:=rfl
theorem Zz2t {k:BitVec 8} {b:BL} (h:b.length≤55):(front k b).length=59:=by unfold front;rw [List.length_append,Zz9c h];rfl
theorem Zz27 {k:BitVec 8} {b:BL} (h:b.length≤55):(frame k b).length=64:=by unfold frame;rw [List.length_append,List.length_append,Zz2t h,Zzam];rfl
theorem Zz29 {kind:Int} {b:BL} (h:1≤kind∧kind≤255∧b.length≤55):cellL kind b=frame (BitVec.ofNat 8 kind.toNat) b:=if_pos h
theorem Zz7c {kind:Int} {b:BL} (h:¬ (1≤kind∧kind≤255∧b.length≤55)):cellL kind b= []:=if_neg h
theorem Zz3r (kind:Int) (b:BL):(cellL kind b).length=if 1≤kind∧kind≤255∧b.length≤55 then 64 else 0:=by
 unfold cellL;split
 ·exact Zz27 (by omega)
 ·rfl
theorem Zzb3 {k:BitVec 8} {b:BL}:(frame k b).getD 3 0=k:=by unfold frame front;simp
theorem Zzc0 {k:BitVec 8} {b:BL} (h:b.length≤55):((frame k b).drop 4).take 55=pad b:=by
 unfold frame front;have:=Zz9c h
 simp [List.take_append,this]
 try rw [ZtL (by omega),ZtL (by omega)]
 try simp
theorem Zzdl {k:BitVec 8} {b:BL} (h:b.length≤55):front k (pad b)=front k b:=by
 unfold front;rw [Zzgc (Zz9c h)]
theorem Zzes {k:BitVec 8} {b:BL} (h:b.length≤55):frame k (pad b)=frame k b:=by unfold frame;rw [Zzdl h]
theorem Zz47 (k:BitVec 8):BitVec.ofNat 8 ((k.toNat:Int)).toNat=k:=by simp
theorem Zzbk {k:BitVec 8} {b:BL} (hk:k≠0#8) (h:b.length≤55):takeP (frame k b)=some (k,pad b):=by
 unfold takeP;rw [Zzb3,Zzc0 h];have hk1:1≤k.toNat:=by
  rcases Nat.eq_zero_or_pos k.toNat with h0 | h0
  ·exact absurd (BitVec.eq_of_toNat_eq (by simpa using h0)) hk
  ·exact h0
 have hk2:=k.isLt;rw [if_pos ⟨Zz27 h,by rw [Zz29 ⟨by omega,by omega,by rw [Zz9c h];omega⟩,Zz47,Zzes h]⟩]
theorem Zz24 {b:BL} {k:BitVec 8} {x:BL} (h:takeP b=some (k,x)):k≠0#8∧x.length=55∧b=frame k x:=by
 unfold takeP at h;split at h
 ·rename_i hc
  injection h with h;injection h with h1 h2;obtain ⟨hl,he⟩:=hc;rw [h1,h2] at he;have hx:x.length=55:=by rw [← h2];simp [hl]
  by_cases hk:1≤(k.toNat:Int)∧(k.toNat:Int)≤255∧x.length≤55
  ·rw [Zz29 hk,Zz47] at he
   exact ⟨by rintro rfl;simp at hk,hx,he.symm⟩
  ·rw [Zz7c hk] at he
   rw [← he] at hl;simp at hl
 ·cases h
end Wells
namespace Wells
open Go Go.RowKit
theorem Zz2s {P:Program} {w:World} {o:Oper} {a:Act} {K:Act→World→Prop} {Q:Exit→Act→World→Prop} (t e:TypeId) (x:Operand) (ho:o.op= .buildSlice t 1 #[(0,x)]) (v:Value) (hx:a.eval x=v) (hv:v.cells= #[v])
  (ie:TypeInfo) (z:Value) (hu:P.underlying t=some (.slice e)) (hie:P.info? e=some ie) (hz:ie.zero=some z) (hs:ie.size=1) (hzc:z.cells= #[z])
  (h:∀ w' g,w.heap.size=g→Row w' g e [v]→Below g w w'→w'.heap.size=g+1→K (a.put o.dst (.slice (some ⟨g,0,none⟩) 1 1)) w'):Oper.wp P o a w K Q:=by
 refine wp_buildSlice t e 1 _ ho #[v] ie z hu hie hz (by rw [hs];omega) (by rw [hs];omega) ?_ ?_
 ·rw [hs,hzc]
  simp [hx,Instr.fill,hv]
  apply Array.ext'
  simp [Array.toList_range,List.range_succ]
 ·exact h _ _ rfl (Row.new w e #[v]) ((Below.refl _ _).alloc (ZnR _) _) (by simp)
theorem Zz5r {P:Program} {w:World} {o:Oper} {a:Act} {K:Act→World→Prop} {Q:Exit→Act→World→Prop} (t:TypeId) (ho:o.op= .alloc t) (i:TypeInfo) (z:Value) (hi:P.info? t=some i) (hz:i.zero=some z)
  (h:∀ w' g,w.heap.size=g→Row w' g t z.cells.toList→Below g w w'→w'.heap.size=g+1→K (a.put o.dst (.pointer (some ⟨g,0,none⟩))) w'):Oper.wp P o a w K Q:=by
 have key:(Instr.alloc t true (.tuple #[])).run P w= .ok (.pointer (some ⟨w.heap.size,0,none⟩)) (w.alloc (.cells z.cells t)):=by
  simp [Instr.alloc,zeroValue,typeInfo,hi,hz,newVar,newRow]
 unfold Oper.wp execOp;simp only [ho,Sem.run_bind,key,Result.andThen_ok];exact h _ _ rfl (by simpa using Row.new w t z.cells) ((Below.refl _ _).alloc (ZnR _) _) (by simp)
theorem Zzf0 {P:Program} {w:World} {o:Oper} {a:Act} {K:Act→World→Prop} {Q:Exit→Act→World→Prop} (t e:TypeId) (x y z:Operand) (ho:o.op= .buildSlice t 3 #[(0,x),(1,y),(2,z)]) (v1 v2 v3:Value) (hx:a.eval x=v1) (hy:a.eval y=v2) (hz':a.eval z=v3)
  (c1:v1.cells= #[v1]) (c2:v2.cells= #[v2]) (c3:v3.cells= #[v3])
  (ie:TypeInfo) (z0:Value) (hu:P.underlying t=some (.slice e)) (hie:P.info? e=some ie) (hz:ie.zero=some z0) (hs:ie.size=1) (hzc:z0.cells= #[z0])
  (h:K (a.put o.dst (.slice (some ⟨w.heap.size,0,none⟩) 3 3)) (w.alloc (.cells #[v1,v2,v3] e))):Oper.wp P o a w K Q:=by
 refine wp_buildSlice t e 3 _ ho #[v1,v2,v3] ie z0 hu hie hz (by rw [hs];omega) (by rw [hs];omega) ?_ h;rw [hs,hzc];simp [hx,hy,hz',Instr.fill,c1,c2,c3]
 apply Array.ext'
 simp [Array.toList_range,List.range_succ]
theorem Zz2c {P:Program} {w:World} {o:Oper} {a:Act} {K:Act→World→Prop} {Q:Exit→Act→World→Prop} (t e:TypeId) (x:Operand) (ho:o.op= .buildSlice t 1 #[(0,x)]) (v0 v1 v2 v3 v4 v5 v6 v7:Value) (hx:a.eval x= .agg #[v0,v1,v2,v3,v4,v5,v6,v7])
  (ie:TypeInfo) (z0 z1 z2 z3 z4 z5 z6 z7:Value) (hu:P.underlying t=some (.slice e)) (hie:P.info? e=some ie) (hz:ie.zero=some (.agg #[z0,z1,z2,z3,z4,z5,z6,z7])) (hs:ie.size=8)
  (h:∀ w' g,w.heap.size=g→Row w' g e [v0,v1,v2,v3,v4,v5,v6,v7]→Below g w w'→w'.heap.size=g+1→K (a.put o.dst (.slice (some ⟨g,0,none⟩) 1 1)) w'):Oper.wp P o a w K Q:=by
 refine wp_buildSlice t e 1 _ ho #[v0,v1,v2,v3,v4,v5,v6,v7] ie _ hu hie hz (by rw [hs];omega) (by rw [hs];omega) ?_ ?_
 ·rw [hs]
  simp [hx,Instr.fill,Value.cells]
  apply Array.ext'
  simp [Array.toList_range,List.range_succ]
 ·exact h _ _ rfl (Row.new w e #[v0,v1,v2,v3,v4,v5,v6,v7]) ((Below.refl _ _).alloc (ZnR _) _) (by simp)
theorem x32 (a b:BitVec 32):bits .xor .u32 (a.toNat:Int) (b.toNat:Int)=((a ^^^ b).toNat:Int):=by
 rw [u32_xor_nat _ _ a.isLt b.isLt,BitVec.toNat_xor]
theorem x32b (a:BitVec 32) (b:BitVec 8):bits .xor .u32 (a.toNat:Int) (b.toNat:Int)=((a ^^^ b.setWidth 32).toNat:Int):=by
 have:=x32 a (b.setWidth 32)
 rw [BitVec.toNat_setWidth,Nat.mod_eq_of_lt (by have:=b.isLt;omega)] at this;exact this
theorem and1 (t:BitVec 32):bits .and .u32 (t.toNat:Int) 1=(t.toNat % 2:Int):=by
 have:=u32_and_nat t.toNat 1 t.isLt (by omega)
 rw [Nat.and_one_is_mod] at this;simpa using this
theorem Zzhm (t:BitVec 32):t.getLsbD 0=decide (t.toNat % 2=1):=by
 rw [BitVec.getLsbD,Nat.testBit_zero]
theorem Zzi1 (t:BitVec 32) (h:(bits .and .u32 (t.toNat:Int) 1==1)=true):bits .xor .u32 ((t.toNat:Int) / 2) 3988292384=((tb t).toNat:Int):=by
 rw [and1] at h;have h1:t.getLsbD 0=true:=by rw [Zzhm];simp at h ⊢;omega
 have e:(t.toNat:Int) / (2:Int)=((t >>> 1).toNat:Int):=by rw [BitVec.toNat_ushiftRight,Nat.shiftRight_eq_div_pow];omega
 have e2:(3988292384:Int)=((0xedb88320#32).toNat:Int):=rfl;rw [e,e2,x32];unfold tb;rw [h1];rfl
theorem Zz8x (t:BitVec 32) (h:(bits .and .u32 (t.toNat:Int) 1==1)=false):((t.toNat:Int) / 2)=((tb t).toNat:Int):=by
 rw [and1] at h;have h1:t.getLsbD 0=false:=by rw [Zzhm];simp at h ⊢;omega
 have e:(t.toNat:Int) / (2:Int)=((t >>> 1).toNat:Int):=by rw [BitVec.toNat_ushiftRight,Nat.shiftRight_eq_div_pow];omega
 rw [e];unfold tb;rw [h1];simp
theorem Zz7z (j:Nat) (s:BitVec 32):tn (j+1) s=tb (tn j s):=Zzie j 1 s
theorem Zz8l (s:BitVec 32) (l:List Byte) (k:Nat) (h:k < l.length):crcS s (l.take (k+1))=tn 8 (crcS s (l.take k) ^^^ (l.getD k 0).setWidth 32):=by
 rw [ZtS h];unfold crcS;rw [List.foldl_append];simp [by8,h]
end Wells
namespace Wells
structure Eqn where
 cols:List Int
 data:List (BitVec 8)
deriving DecidableEq
instance:Inhabited Eqn:=⟨⟨[], []⟩⟩
def xorL (s v:List (BitVec 8)):List (BitVec 8):=List.zipWith (· ^^^ ·) s v
theorem Zzhh (s v:List (BitVec 8)):(xorL s v).length=min s.length v.length:=by unfold xorL;simp
theorem Zz40 (s v:List (BitVec 8)) (i:Nat):(xorL s v)[i]? =(match s[i]?,v[i]? with | some a,some b=>some (a ^^^ b) | _,_=>none):=by
 unfold xorL;rw [List.getElem?_zipWith];cases s[i]? <;> cases v[i]? <;> rfl
theorem Zz61 (s a b:List (BitVec 8)):xorL (xorL s a) b=xorL (xorL s b) a:=by
 apply List.ext_getElem?
 intro i;rw [Zz40,Zz40,Zz40,Zz40];cases s[i]? <;> cases a[i]? <;> cases b[i]? <;> simp only
 rename_i x y z
 rw [BitVec.xor_assoc,BitVec.xor_assoc,BitVec.xor_comm y z]
structure PSt where
 known:List Bool
 vals:List (List (BitVec 8))
def PSt.new (n:Nat):PSt:=⟨List.replicate n false,List.replicate n []⟩
def PSt.kn (S:PSt) (c:Int):Bool:=S.known.getD c.toNat false
def PSt.val (S:PSt) (c:Int):List (BitVec 8):=S.vals.getD c.toNat []
def PSt.opn (S:PSt) (cols:List Int):List Int:=cols.filter fun c=> !S.kn c
def PSt.stepD (S:PSt) (s:List (BitVec 8)) (c:Int):List (BitVec 8):=if S.kn c then xorL s (S.val c) else s
def PSt.rest (S:PSt) (q:Eqn):List (BitVec 8):=q.cols.foldl S.stepD q.data
def PSt.put (S:PSt) (c:Int) (v:List (BitVec 8)):PSt:=⟨S.known.set c.toNat true,S.vals.set c.toNat v⟩
structure Right (n:Nat) (D:Nat) (rows:List Eqn):Prop where
 rng:∀ q∈rows,∀ c∈q.cols,0≤c∧c < (n:Int)
 nd:∀ q∈rows,q.cols.Nodup
 len:∀ q∈rows,q.data.length=D
inductive Reach (n:Nat) (rows:List Eqn):PSt→Prop where
 | start:Reach n rows (PSt.new n)
 | step {S:PSt} {q:Eqn} {c:Int}:Reach n rows S→q∈rows→S.opn q.cols= [c]→Reach n rows (S.put c (S.rest q))
def Final (rows:List Eqn) (S:PSt):Prop:=∀ q∈rows,(S.opn q.cols).length≠1
def Sound (rows:List Eqn) (S:PSt):Prop:=∀ q∈rows,S.opn q.cols= []→∀ b∈S.rest q,b=0#8
theorem Zz6n {α:Type} {l:List α} {i j:Nat} {a z:α} (hi:i < l.length):(l.set i a).getD j z=if j=i then a else l.getD j z:=by
 simp only [ZgD];split
 ·rename_i h;subst h;simp [hi]
 ·rename_i h;rw [List.getElem?_set_ne (fun e=>h e.symm)]
theorem Zz43 {S:PSt} {cols:List Int} {c:Int}:c∈S.opn cols↔c∈cols∧S.kn c=false:=by
 unfold PSt.opn;rw [List.mem_filter];cases S.kn c <;> simp
section
variable {n D:Nat} {rows:List Eqn} {S T:PSt}
structure Form (n D:Nat) (S:PSt):Prop where
 kl:S.known.length=n
 vl:S.vals.length=n
 len:∀ c:Int,0≤c→S.kn c=true→(S.val c).length=D
 no:∀ c:Int,0≤c→S.kn c=false→S.val c= []
theorem Zz55 {S:PSt} (h:∀ c:Int,0≤c→S.kn c=true→(S.val c).length=D):∀ (cs:List Int) (s:List (BitVec 8)),(∀ c∈cs,0≤c)→s.length=D→(cs.foldl S.stepD s).length=D
 | [],_,_,hs=>hs
 | c::cs,s,hc,hs=>by
  rw [List.foldl_cons];refine Zz55 h cs _ (fun x hx=>hc x (List.mem_cons_of_mem _ hx)) ?_;unfold PSt.stepD;split
  ·rename_i hk
   rw [Zzhh,hs,h c (hc c (List.mem_cons_self ..)) hk];omega
  ·exact hs
theorem Zzag {c c':Int} {v:List (BitVec 8)} (h0:0≤c) (h0':0≤c') (hl:c.toNat < S.known.length):(S.put c v).kn c'=if c'=c then true else S.kn c':=by
 unfold PSt.put PSt.kn;rw [Zz6n hl];by_cases h:c'=c
 ·subst h;simp
 ·rw [if_neg h,if_neg (by omega)]
theorem Zzck {c c':Int} {v:List (BitVec 8)} (h0:0≤c) (h0':0≤c') (hl:c.toNat < S.vals.length):(S.put c v).val c'=if c'=c then v else S.val c':=by
 unfold PSt.put PSt.val;rw [Zz6n hl];by_cases h:c'=c
 ·subst h;simp
 ·rw [if_neg h,if_neg (by omega)]
theorem Form.new_ (n D:Nat):Form n D (PSt.new n):=
 ⟨by simp [PSt.new],by simp [PSt.new],fun c _ hk=>by
  unfold PSt.new PSt.kn at hk;rw [ZgD,List.getElem?_replicate] at hk;split at hk <;> simp at hk,fun c _ _=>by
  unfold PSt.new PSt.val;rw [ZgD,List.getElem?_replicate];split <;> rfl⟩
theorem Form.put_ {q:Eqn} {c:Int} (hr:Right n D rows) (h:Form n D S) (hq:q∈rows) (ho:c∈S.opn q.cols):Form n D (S.put c (S.rest q)):=by
 have hc:=Zz43.1 ho;have hb:=hr.rng q hq c hc.1;have hlen:(S.rest q).length=D:=Zz55 h.len _ _ (fun x hx=>(hr.rng q hq x hx).1) (hr.len q hq);have hk:c.toNat < S.known.length:=by rw [h.kl];omega
 have hv:c.toNat < S.vals.length:=by rw [h.vl];omega
 refine ⟨by unfold PSt.put;rw [List.length_set];exact h.kl,by unfold PSt.put;rw [List.length_set];exact h.vl,fun c' h0 h1=> ?_,fun c' h0 h1=> ?_⟩
 ·rw [Zzag hb.1 h0 hk] at h1
  rw [Zzck hb.1 h0 hv];by_cases he:c'=c
  ·rw [if_pos he];exact hlen
  ·rw [if_neg he] at h1 ⊢;exact h.len c' h0 h1
 ·rw [Zzag hb.1 h0 hk] at h1
  rw [Zzck hb.1 h0 hv];by_cases he:c'=c
  ·rw [if_pos he] at h1;cases h1
  ·rw [if_neg he] at h1 ⊢;exact h.no c' h0 h1
theorem Reach.form (hr:Right n D rows) (h:Reach n rows S):Form n D S:=by
 induction h with
 | start=>exact Form.new_ n D
 | step _ hq ho ih=>exact ih.put_ hr hq (by rw [ho];exact List.mem_singleton.2 rfl)
theorem Reach.sub (hr:Right n D rows) (h:Reach n rows S) (hT:Final rows T):∀ c:Int,0≤c→S.kn c=true→T.kn c=true:=by
 induction h with
 | start=>
  intro c h0 hk;exfalso
  unfold PSt.new PSt.kn at hk;rw [ZgD,List.getElem?_replicate] at hk;split at hk <;> simp at hk
 | @step S q c hS hq ho ih=>
  intro c' h0 hk;have hc:=Zz43.1 (show c∈S.opn q.cols by rw [ho];exact List.mem_singleton.2 rfl);have hb:=hr.rng q hq c hc.1;rw [Zzag hb.1 h0 (by rw [(hS.form hr).kl];omega)] at hk;by_cases he:c'=c
  ·subst he
   cases hTk:T.kn c' with
   | true=>rfl
   | false=>
    exfalso
    have hsub:∀ x∈T.opn q.cols,x=c':=fun x hx=>by
     have hx1:=Zz43.1 hx;have hxs:S.kn x=false:=by
      cases hsx:S.kn x with
      | false=>rfl
      | true=>rw [ih x (hr.rng q hq x hx1.1).1 hsx] at hx1;cases hx1.2
     have:x∈S.opn q.cols:=Zz43.2 ⟨hx1.1,hxs⟩
     rw [ho] at this;exact List.mem_singleton.1 this
    have hmem:c'∈T.opn q.cols:=Zz43.2 ⟨hc.1,hTk⟩;have hnd:(T.opn q.cols).Nodup:=(hr.nd q hq).sublist List.filter_sublist;refine hT q hq ?_;match hl:T.opn q.cols with
    | []=>rw [hl] at hmem;cases hmem
    | [x]=>rfl
    | x::y::zs=>
     rw [hl] at hsub hnd;have e1:=hsub x (List.mem_cons_self ..);have e2:=hsub y (List.mem_cons_of_mem _ (List.mem_cons_self ..));rw [e1,e2] at hnd;simp at hnd
  ·rw [if_neg he] at hk
   exact ih c' h0 hk
theorem Zz2h (S:PSt):∀ (cs:List Int) (s:List (BitVec 8)),cs.foldl S.stepD s=(cs.filter fun c=>S.kn c).foldl (fun s c=>xorL s (S.val c)) s
 | [],_=>rfl
 | c::cs,s=>by
  rw [List.foldl_cons,Zz2h S cs];unfold PSt.stepD;cases hk:S.kn c with
  | true=>rw [List.filter_cons_of_pos (by simpa using hk),List.foldl_cons,if_pos rfl]
  | false=>rw [List.filter_cons_of_neg (by simp [hk]),if_neg (by simp)]
theorem Zzd2 {f:Int→List (BitVec 8)} {a b:List Int} (h:a.Perm b):∀ s,a.foldl (fun s c=>xorL s (f c)) s=b.foldl (fun s c=>xorL s (f c)) s:=by
 induction h with
 | nil=>exact fun _=>rfl
 | cons x _ ih=>exact fun s=>ih _
 | swap x y l=>exact fun s=>by simp only [List.foldl_cons];rw [Zz61]
 | trans _ _ ih1 ih2=>exact fun s=>(ih1 s).trans (ih2 s)
theorem Zz4s {f g:Int→List (BitVec 8)}:∀ (cs:List Int) (s:List (BitVec 8)),(∀ c∈cs,f c=g c)→cs.foldl (fun s c=>xorL s (f c)) s=cs.foldl (fun s c=>xorL s (g c)) s
 | [],_,_=>rfl
 | c::cs,s,h=>by
  rw [List.foldl_cons,List.foldl_cons,h c (List.mem_cons_self ..)];exact Zz4s cs _ (fun x hx=>h x (List.mem_cons_of_mem _ hx))
theorem xor_zero {s v:List (BitVec 8)} (hl:s.length=v.length) (h:∀ b∈xorL s v,b=0#8):s=v:=by
 apply List.ext_getElem?
 intro i;by_cases hi:i < s.length
 ·have hx:=Zz40 s v i
  rw [ZgE hi,ZgE (show i < v.length by omega)] at hx ⊢;have h0:=h _ (List.mem_of_getElem? hx);rw [show v[i]'(by omega)=s[i] from ?_];have:s[i] ^^^ (s[i] ^^^ v[i]'(by omega))=s[i] ^^^ 0#8:=by rw [h0]
  rw [← BitVec.xor_assoc,BitVec.xor_self,BitVec.zero_xor,BitVec.xor_zero] at this;exact this
 ·rw [List.getElem?_eq_none (by omega),List.getElem?_eq_none (by omega)]
theorem Reach.vals (hr:Right n D rows) (hS:Reach n rows S) (hT:Reach n rows T) (fT:Final rows T) (sT:Sound rows T):∀ c:Int,0≤c→S.kn c=true→S.val c=T.val c:=by
 have gT:=hT.form hr;induction hS with
 | start=>
  intro c h0 hk;exfalso
  unfold PSt.new PSt.kn at hk;rw [ZgD,List.getElem?_replicate] at hk;split at hk <;> simp at hk
 | @step S q c hS hq ho ih=>
  intro c' h0 hk;have hc:=Zz43.1 (show c∈S.opn q.cols by rw [ho];exact List.mem_singleton.2 rfl);have hb:=hr.rng q hq c hc.1;have gS:=hS.form hr;have hkl:c.toNat < S.known.length:=by rw [gS.kl];omega
  have hvl:c.toNat < S.vals.length:=by rw [gS.vl];omega
  rw [Zzag hb.1 h0 hkl] at hk;rw [Zzck hb.1 h0 hvl];by_cases he:c'=c
  ·subst he
   rw [if_pos rfl];have hall:=(Reach.step hS hq ho).sub hr fT;have hTk:∀ x∈q.cols,T.kn x=true:=fun x hx=>by
    have hxb:=hr.rng q hq x hx;refine hall x hxb.1 ?_;rw [Zzag hb.1 hxb.1 hkl];by_cases hxc:x=c'
    ·rw [if_pos hxc]
    ·rw [if_neg hxc]
     cases hsk:S.kn x with
     | true=>rfl
     | false=>
      exfalso
      have:x∈S.opn q.cols:=Zz43.2 ⟨hx,hsk⟩
      rw [ho] at this;exact hxc (List.mem_singleton.1 this)
   have hopen:T.opn q.cols= []:=by
    unfold PSt.opn;rw [List.filter_eq_nil_iff];intro x hx;simp [hTk x hx]
   have hz:=sT q hq hopen;unfold PSt.rest at hz;rw [Zz2h,List.filter_eq_self.2 (fun x hx=>hTk x hx)] at hz;have hperm:(c'::q.cols.filter fun x=>S.kn x).Perm q.cols:=by
    have h1:=List.filter_append_perm (fun x=>S.kn x) q.cols;have h2:(q.cols.filter fun x=> !S.kn x)= [c']:=ho;rw [h2] at h1;exact (List.perm_append_comm (l₁:= [c'])).trans h1
   rw [← Zzd2 hperm,List.foldl_cons] at hz;have hpull:∀ (cs:List Int) (s v:List (BitVec 8)),cs.foldl (fun s c=>xorL s (T.val c)) (xorL s v)=xorL (cs.foldl (fun s c=>xorL s (T.val c)) s) v:=by
    intro cs;induction cs with
    | nil=>exact fun _ _=>rfl
    | cons y ys ihy=>exact fun s v=>by rw [List.foldl_cons,List.foldl_cons,Zz61,ihy]
   rw [hpull] at hz;have hrest:S.rest q=(q.cols.filter fun x=>S.kn x).foldl (fun s c=>xorL s (T.val c)) q.data:=by
    unfold PSt.rest;rw [Zz2h];exact Zz4s _ _ (fun x hx=>by
     have hx2:=List.mem_filter.1 hx;exact ih x (hr.rng q hq x hx2.1).1 (by simpa using hx2.2))
   rw [← hrest] at hz;have hlen:(S.rest q).length=D:=Zz55 gS.len _ _ (fun x hx=>(hr.rng q hq x hx).1) (hr.len q hq);exact xor_zero (by rw [hlen,gT.len c' h0 (hTk c' hc.1)]) hz
  ·rw [if_neg he] at hk ⊢
   exact ih c' h0 hk
end
end Wells
namespace Wells
open Go Go.RowKit
def jump2 (l1 l2:Nat) (J1 J2:Act→World→Prop) (Q:Exit→Act→World→Prop):Exit→Act→World→Prop
 | .goto l',a,w=>(l'=l1∧J1 a w)∨(l'=l2∧J2 a w)
 | e,a,w=>Q e a w
theorem Zzan {l1 l2:Nat} {J1 J1' J2:Act→World→Prop} {Q:Exit→Act→World→Prop} (h:∀ a w,J1 a w→J1' a w):∀ e a w,jump2 l1 l2 J1 J2 Q e a w→jump2 l1 l2 J1' J2 Q e a w:=fun e a w hj=>by
 cases e <;> first | exact hj | exact hj.elim (fun x=> .inl ⟨x.1,h _ _ x.2⟩) .inr
section
variable {P:Program} {a:Act} {w:World} {Q:Exit→Act→World→Prop}
theorem Zz7n {c X Y:Code} (l1 l2:Nat) (J1 J2:Act→World→Prop) (μ:Act→World→Nat) (hf1:findLabel c l1=some (Code.skip.seq X)) (hf2:findLabel c l2=some (Code.skip.seq Y))
  (first:(∀ a w,J1 a w→X.wp P (jump2 l1 l2 J1 J2 Q) a w)→c.wp P (jump2 l1 l2 J1 J2 Q) a w)
  (pass1:∀ a w,J1 a w→X.wp P (jump2 l1 l2 (fun a' w'=>J1 a' w'∧μ a' w' < μ a w) J2 Q) a w)
  (pass2:∀ a w,J2 a w→Y.wp P (jump2 l1 l2 (fun _ _=>False) (fun _ _=>False) Q) a w):(Code.scope c).wp P Q a w:=by
 have first':=first fun a w h=>wp_mono (pass1 a w h) fun e a' w'=>Zzan (fun _ _ h=>h.1) e a' w'
 clear first;have p1:∀ a w,J1 a w→(Code.skip.seq X).wp P (jump2 l1 l2 (fun a' w'=>J1 a' w'∧μ a' w' < μ a w) J2 Q) a w:=fun a w h=>wp_seq (wp_skip (pass1 a w h))
 have p2:∀ a w,J2 a w→(Code.skip.seq Y).wp P (jump2 l1 l2 (fun _ _=>False) (fun _ _=>False) Q) a w:=fun a w h=>wp_seq (wp_skip (pass2 a w h))
 intro b k cs;have hg1:gotoIn l1 (.inScope c::k)=some (.code (Code.skip.seq X):: .inScope c::k):=by simp [gotoIn,hf1]
 have hg2:gotoIn l2 (.inScope c::k)=some (.code (Code.skip.seq Y):: .inScope c::k):=by simp [gotoIn,hf2]
 have key2:∀ a w,J2 a w→∃ e a' w',Q e a' w'∧Arrives P (lone (b.at a (.code (Code.skip.seq Y):: .inScope c::k)) cs w) b k cs e a' w':=by
  intro a w hJ;obtain ⟨e,a₁,w₁,hq,harr⟩:=p2 a w hJ b (.inScope c::k) cs;cases e with
  | normal=>exact ⟨.normal,a₁,w₁,hq,Steps.trans harr (.one step_inScope)⟩
  | exit id=>exact ⟨.exit id,a₁,w₁,hq,fun k' hk=>harr k' (by simp [exitTo,hk])⟩
  | goto l'=>rcases hq with ⟨_,h⟩ | ⟨_,h⟩ <;> exact h.elim
  | ret=>exact ⟨_,a₁,w₁,hq,harr⟩
  | panic ch=>exact ⟨_,a₁,w₁,hq,harr⟩
  | outgrown=>exact ⟨_,a₁,w₁,hq,harr⟩
 have key:∀ n a w,μ a w=n→J1 a w→∃ e a' w',Q e a' w'∧Arrives P (lone (b.at a (.code (Code.skip.seq X):: .inScope c::k)) cs w) b k cs e a' w':=by
  intro n;induction n using Nat.strongRecOn with
  | _ n ih=>
   intro a w hn hJ;obtain ⟨e,a₁,w₁,hq,harr⟩:=p1 a w hJ b (.inScope c::k) cs;cases e with
   | normal=>exact ⟨.normal,a₁,w₁,hq,Steps.trans harr (.one step_inScope)⟩
   | exit id=>exact ⟨.exit id,a₁,w₁,hq,fun k' hk=>harr k' (by simp [exitTo,hk])⟩
   | goto l'=>
    rcases hq with ⟨rfl,hJ',hlt⟩ | ⟨rfl,hJ'⟩
    ·obtain ⟨e₂,a₂,w₂,hq₂,harr₂⟩:=ih _ (by omega) a₁ w₁ rfl hJ'
     exact ⟨e₂,a₂,w₂,hq₂,.of_steps (harr _ hg1) harr₂⟩
    ·obtain ⟨e₂,a₂,w₂,hq₂,harr₂⟩:=key2 a₁ w₁ hJ'
     exact ⟨e₂,a₂,w₂,hq₂,.of_steps (harr _ hg2) harr₂⟩
   | ret=>exact ⟨_,a₁,w₁,hq,harr⟩
   | panic ch=>exact ⟨_,a₁,w₁,hq,harr⟩
   | outgrown=>exact ⟨_,a₁,w₁,hq,harr⟩
 obtain ⟨e,a₁,w₁,hq,harr⟩:=first' b (.inScope c::k) cs;cases e with
 | normal=>exact ⟨.normal,a₁,w₁,hq,.head step_scope (Steps.trans harr (.one step_inScope))⟩
 | exit id=>exact ⟨.exit id,a₁,w₁,hq,fun k' hk=> .head step_scope (harr k' (by simp [exitTo,hk]))⟩
 | goto l'=>
  rcases hq with ⟨rfl,hJ'⟩ | ⟨rfl,hJ'⟩
  ·obtain ⟨e₂,a₂,w₂,hq₂,harr₂⟩:=key _ a₁ w₁ rfl hJ'
   exact ⟨e₂,a₂,w₂,hq₂,.of_steps (.head step_scope (harr _ hg1)) harr₂⟩
  ·obtain ⟨e₂,a₂,w₂,hq₂,harr₂⟩:=key2 a₁ w₁ hJ'
   exact ⟨e₂,a₂,w₂,hq₂,.of_steps (.head step_scope (harr _ hg2)) harr₂⟩
 | ret=>exact ⟨_,a₁,w₁,hq,.of_steps (.one step_scope) harr⟩
 | panic ch=>exact ⟨_,a₁,w₁,hq,.of_steps (.one step_scope) harr⟩
 | outgrown=>exact ⟨_,a₁,w₁,hq,.of_steps (.one step_scope) harr⟩
end
theorem Zz6t {z:Value} (hz:z.cells= #[z]) (n:Nat):Builtin.zeroCells z.cells n=(List.replicate n z).toArray:=by
 rw [hz];unfold Builtin.zeroCells;apply Array.ext
 ·simp
 ·intro j h1 h2
  simp [Nat.mod_one]
theorem Zz2f {P:Program} (w:World) (base:Nat) (t ti ty e:TypeId) (i:TypeInfo) (z:Value) (bytes:Nat) (ht:P.underlying t=some (.slice e)) (hti:P.underlying ti=some (.int .i64)) (hi:P.info? e=some i) (hz:i.zero=some z)
  (hsize:i.size=1) (hby:i.bytes=bytes) (hzc:z.cells= #[z]) (h1:z.oneCell'=true)
  (v:Value) (n:Nat) (xs:List Value) (hown:w.ownsRow base e 1 v n xs) (m:Nat) (hb0:0 < bytes)
  (h63:n+m≤maxLen) (hbytes:(n+m)*bytes≤140737488355328) (hbase:base≤w.heap.size):
  ∃ v' w',(Builtin.append_ #[t,ti] ty #[v,.int .i64 (m:Int)]).run P w= .ok v' w'∧w'.ownsRow base e 1 v' (n+m) (xs++List.replicate m z)∧w.grownBy w' v.ownBlock:=by
 subst hby;have hsmall:n+m≤9223372036854775807:=by simp only [maxLen] at h63;omega
 have hlen:(xs++List.replicate m z).length=(n+m)*1:=by rw [List.length_append,hown.1,List.length_replicate];omega
 have hm48:¬ (281474976710656 < (m:Int)*(i.bytes:Int)):=by
  have h2:m*i.bytes≤(n+m)*i.bytes:=Nat.mul_le_mul_right _ (by omega);have h3:((m*i.bytes:Nat):Int)=(m:Int)*(i.bytes:Int):=by simp
  omega
 have hwr:IntKind.i64.wrap (m:Int)=(m:Int):=by rw [IntKind.wrap_i64];omega
 have hm0:¬ ((m:Int) < 0):=by omega
 have hw0:IntKind.i64.wrap 0=0:=by decide
 have hzs:=Zz6t hzc m;have grown:∀ (old:Nat),old < n+m→∀ (row:Option Nat),
   (w.drew.alloc (.cells (xs.toArray++(List.replicate m z).toArray++Builtin.zeroCells z.cells (grownCap w (n+m) old e - (n+m))) e)).ownsRow base e 1
    (.slice (some ⟨w.heap.size,0,none⟩) (n+m) (grownCap w (n+m) old e)) (n+m) (xs++List.replicate m z)∧
   w.grownBy (w.drew.alloc (.cells (xs.toArray++(List.replicate m z).toArray++Builtin.zeroCells z.cells (grownCap w (n+m) old e - (n+m))) e)) row:=by
  intro old ho row;have hge:=grownCap_ge w (n+m) old e;have hcm:grownCap w (n+m) old e≤maxLen:=grownCap_le_maxLen w (n+m) old e h63;refine ⟨⟨hlen,.inr ⟨w.heap.size,_,_,rfl,hbase,heap_alloc_new w.drew _,hge,hcm,?_,?_⟩⟩,⟨rfl,rfl,rfl,by simp,fun k hk _=>(Below.heap_alloc w.drew _ k (by simpa using hk))⟩⟩
  ·have hx:=hown.1
   simp only [Array.size_append,List.size_toArray,size_zeroCells,hzc,List.length_replicate];simp
   omega
  ·simp only [Array.toList_append,List.append_assoc]
   rw [← List.append_assoc,← hlen];exact List.take_left
 rcases hown.2 with ⟨rfl,rfl⟩ | ⟨g,cap,cur,rfl,hbg,hg,hnc,hcm,hcs,htake⟩
 ·have hx:xs= []:=List.eq_nil_of_length_eq_zero (by simpa using hown.1)
  subst hx;by_cases hm:m=0
  ·subst hm
   refine ⟨.slice none 0 0,w,?_,World.ownsRow_nil w base e 1,⟨rfl,rfl,rfl,ZnR _,fun _ _ _=>rfl⟩⟩;simp [Builtin.append_,run_underlying ht,run_underlying hti,Go.sizeOf,typeInfo,hi,asInt,asIntOf,hwr,hw0,hm0,hsize]
  ·have hgr:=grown 0 (by omega) (Value.ownBlock (.slice none 0 0))
   have h48':¬ (281474976710656 < Builtin.nextslicecap m 0*i.bytes):=by rw [nextslicecap_zero (by omega)];simp only [Nat.zero_add] at hbytes;omega
   have h63':¬ (9223372036854775807 < (m:Int)):=by omega
   simp only [Nat.zero_add,List.nil_append,Array.empty_append] at hgr ⊢;refine ⟨_,_,?_,hgr.1,hgr.2⟩;simp [Builtin.append_,run_underlying ht,run_underlying hti,Go.sizeOf,typeInfo,zeroValue,hi,hz,asInt,asIntOf,hwr,hw0,hm0,hsize,hm,hm48,h63',h48',Question.forced,run_firstCells_none,newRow,grownCap,hzs]
 ·by_cases hroom:n+m≤cap
  ·have hcs':cur.size=cap:=by omega
   by_cases hm:m=0
   ·subst hm
    refine ⟨_,w,?_,by simpa using hown,World.grownBy.refl w _⟩;have h0:¬ cap < n:=by omega
    simp [Builtin.append_,run_underlying ht,run_underlying hti,Go.sizeOf,typeInfo,hi,asInt,asIntOf,hwr,hw0,hm0,hsize,hnc,storeCells]
   ·have hst:=run_storeCells_at P g n e (List.replicate m z) 0 cur w hg (by simp;omega) (by intro u hu;rw [List.eq_of_mem_replicate hu];exact h1)
    simp only [Nat.add_zero] at hst;refine ⟨.slice (some ⟨g,0,none⟩) (n+m) cap,w.setRow g (cur.toList.take n++List.replicate m z++cur.toList.drop (n+(List.replicate m z).length)).toArray,?_,⟨hlen,.inr ⟨g,cap,_,rfl,hbg,setRow_heap w g cur _ e _ hg,hroom,hcm,?_,?_⟩⟩,⟨rfl,rfl,rfl,by simp,fun k _ hk=>setRow_other w g k _ (fun e=>hk (by simp [Value.ownBlock,e]))⟩⟩
    ·simp [Builtin.append_,run_underlying ht,run_underlying hti,Go.sizeOf,typeInfo,zeroValue,hi,hz,asInt,asIntOf,hwr,hw0,hm0,hsize,hm,hm48,hroom,hzs,Addr.add_lit]
     simp at hst
     simp [hst]
    ·simp only [List.size_toArray,List.length_append,List.length_take,List.length_drop,Array.length_toList,List.length_replicate]
     omega
    ·have:cur.toList.take n=xs:=by simpa using htake
     simp only [this];rw [← hlen];exact List.take_left
  ·have holds:∀ j u,xs[j]? =some u→w.cell? ((⟨g,0,none⟩:Addr).add j)=some u:=hown.cells (g:=g) rfl
   have hfo:=run_firstCells_some (P:=P) w.drew 1 n ⟨g,0,none⟩ n cap xs (by have:=hown.1;omega) (by simpa using holds);have hgr:=grown cap (by omega) (Value.ownBlock (.slice (some ⟨g,0,none⟩) n cap));have hn:¬ (n+m≤cap):=hroom;have hm:¬ m=0:=by omega
   have h63':¬ (9223372036854775807 < ((n:Int)+(m:Int))):=by omega
   have h48':¬ (281474976710656 < Builtin.nextslicecap (n+m) cap*i.bytes):=by have:=growslice_fits (show cap < n+m by omega) hbytes;omega
   refine ⟨_,_,?_,hgr.1,hgr.2⟩;simp [Builtin.append_,run_underlying ht,run_underlying hti,Go.sizeOf,typeInfo,zeroValue,hi,hz,asInt,asIntOf,hwr,hw0,hm0,hsize,hm,hm48,hn,h63',h48',Question.forced,hfo,newRow,grownCap,hzs]
theorem Zz41 {P:Program} {w:World} {ops:Array Oper} {rest:List Oper} {o:Oper} {a:Act} {Q:Exit→Act→World→Prop} (hgd:o.guard=none) (s x:Operand) (t ti:TypeId)
  (ho:o.op= .call { callee:= .builtin .append,args:= #[s,x],argTypes:= #[t,ti]})
  (base:Nat) (e:TypeId) (i:TypeInfo) (z:Value) (bytes:Nat) (ht:P.underlying t=some (.slice e)) (hti:P.underlying ti=some (.int .i64)) (hi:P.info? e=some i) (hz:i.zero=some z)
  (hsize:i.size=1) (hby:i.bytes=bytes) (hzc:z.cells= #[z]) (h1:z.oneCell'=true) (hb0:0 < bytes)
  (v:Value) (n:Nat) (xs:List Value) (hs:a.eval s=v) (hown:w.ownsRow base e 1 v n xs)
  (m:Nat) (hx:a.eval x= .int .i64 (m:Int))
  (N:Nat) (hN:n+m=N) (ys:List Value) (hys:xs++List.replicate m z=ys) (h63:N≤9223372036854775807) (hbytes:N*bytes≤140737488355328) (hbase:base≤w.heap.size)
  (h:∀ A' c' w',w'.ownsRow base e 1 (.slice A' N c') N ys→w.grownBy w' v.ownBlock→
   wpList P ops Q rest (a.put o.dst (.slice A' N c')) w'):wpList P ops Q (o::rest) a w:=by
 subst hN hys;obtain ⟨v',w',hrun,h2,h3⟩:=Zz2f (P:=P) w base t ti o.type e i z bytes ht hti hi hz hsize hby hzc h1 v n xs hown m hb0 (by unfold maxLen;omega) hbytes hbase;obtain ⟨A',c',rfl,_⟩:=Zz0h h2;refine wpList_plain hgd fun K hK=> ?_
 unfold Oper.wp execOp;simp only [ho,resolve,invoke,builtin,Sem.run_bind,Sem.run_pure,Result.andThen_ok,List.map_toArray,List.map_cons,List.map_nil,hs,hx,hrun];exact hK _ _ (h A' c' w' h2 h3)
end Wells
