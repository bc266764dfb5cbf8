/- OrdG OrgA OrgB OpMake CellMath OpApp OpBox -/
import Derived.Great.BuildSlice
import Derived.Deep.AppendSrc
import Derived.Lib.AppendStr
import Derived.Test.YtpokipdpjhookaaGreatDoorBTopRetires00
set_option maxHeartbeats 8000000
set_option maxRecDepth 20000
set_option linter.all false
namespace Go.Proofs
open Go Go.RowKit Tryz
variable {w:World} {c:Int}
section
section
variable {P:Program} {md:Region.Mode} {ops:Array Oper} {Q:Exit→V_} {S0:U1→Prop} {ps:List Nat}
/-- till a mark has come up S0 holds -/
def Sm (ps:List Nat) (S0:U1→Prop) (L:Array Bool) (w:U1):Prop:=(∀p∈ps,L.getD p true=false)→S0 w
/-- whoever has come up has those ahead of him behind him -/
def Closed (md:Region.Mode) (ops:Array Oper) (L:Array Bool):Prop:=∀j oj,j<ops.size→ops[j]? =some oj→L.getD j true=true→∀e∈oj.after,Region.binds md e=true→L.getD e.on false=true
/-- the operation leaves v, and the world as it is -/
def Pure (P:Program) (o:Oper) (v:U2) (a:Act) (w:U1):Prop:=
 (execOp a.eval o).run P w=.ok (.value v) w∨∃f args,(execOp a.eval o).run P w=.ok (.enter f args) w∧Calls P f args w fun e w'=>e=.returned v∧w=w'
def YG (P:Program) (md:Region.Mode) (ops:Array Oper) (ps:List Nat) (S0:U1→Prop) (i:Nat) (o:Oper) (v:U2) (a:Act):Prop:=
 (Region.wanted o (yielded ops a.tmps)=true∧∀L w,L.getD i true=false→Closed md ops L→Sm ps S0 L w→Pure P o v a w)∨(Region.wanted o (yielded ops a.tmps)=false∧v=undef)
theorem YG.of_same {i:Nat}{o:Oper}{v:U2}{a a':Act}(hy:YG P md ops ps S0 i o v a)(he:execOp a'.eval o=execOp a.eval o)
  (hw:Region.wanted o (yielded ops a'.tmps)=Region.wanted o (yielded ops a.tmps)):YG P md ops ps S0 i o v a':=by
 unfold YG Pure at*;rw[he,hw];exact hy
theorem YG.wpOp {i:Nat}{o:Oper}{v:U2}{a:Act}(hi:ops[i]? =some o)(hy:YG P md ops ps S0 i o v a){L:Array Bool}{w:U1}(hu:L.getD i true=false)(hc:Closed md ops L)(hS:Sm ps S0 L w)
  {K:V_} (h:K (a.put o.dst v) w):wpOp P ops Q i K a w:=by
 unfold Go.wpOp;simp only[hi];rcases hy with ⟨hw,hv⟩|⟨hw,rfl⟩
 ·rcases hv L w hu hc hS with h1|⟨f,args,h1,h2⟩;·simp only[hw,if_true,Oper.wp,h1,Oper.upon];exact .inl h
  ·simp only[hw,if_true,Oper.wp,h1,Oper.upon];refine .inl (Calls.mono h2 fun e w' he=>?_);obtain⟨rfl,rfl⟩:=he;exact h
 ·simp only[hw,Bool.false_eq_true,if_false];exact h
theorem ZdI {i j:Nat}{oi oj:Oper}{v:U2}(hj:ops[j]? =some oj)(hap:oi.apart ops oj=true)
  (hsi:∀cs b,oi.op≠ .select cs b) (hsj:∀cs b,oj.op≠ .select cs b)
  (hQ:∀c a w,Q (.panic c) (a.put oi.dst v) w→Q (.panic c) a w) {K:V_} {a:Act} {w:U1}
  (hy:YG P md ops ps S0 i oi v a) (h:wpOp P ops Q j K (a.put oi.dst v) w):
  wpOp P ops Q j (fun a' w'=>YG P md ops ps S0 i oi v a'∧K (a'.put oi.dst v) w') a w:=by
 obtain⟨h1,h2,h3⟩:=Oper.apart_spec hap;have keep:∀(a:Act),YG P md ops ps S0 i oi v a→∀u,YG P md ops ps S0 i oi v (a.put oj.dst u):=fun a hy u=>
  hy.of_same (execOp_put oi hsi a oj.dst u h3) (wanted_put oi a oj.dst u h3)
 have keepD:∀d,YG P md ops ps S0 i oi v { a with defers:=d::a.defers}:=fun d=>hy.of_same rfl rfl;unfold wpOp at*;simp only[hj]at*;rw[wanted_put oj a oi.dst v h1]at h;split
 ·rename_i hw;simp only[hw,if_true]at h;rcases h with h|⟨hasks,hlets⟩;case inr=>exact .inr ⟨by unfold Oper.asks at*;rw[execOp_put oj hsj a oi.dst v h1]at hasks;exact hasks,hlets⟩
  refine .inl ?_;unfold Oper.wp at*;rw[execOp_put oj hsj a oi.dst v h1]at h;generalize (execOp a.eval oj).run P w=r at*;cases r with
  |ok n w'=>
   cases n <;> simp only[Oper.upon]at h ⊢
   case value u=>exact⟨keep a hy u,by rw[←Act.put_comm a v u h2];exact h⟩
   case skip=>exact⟨keep a hy _,by rw[←Act.put_comm a v undef h2];exact h⟩
   case defer d=>refine⟨keep _ (keepD d) _,?_⟩;rw[←Act.put_comm _ v undef h2,←Act.put_defers];exact h
   case enter f args=>
    refine Calls.mono h fun e w'' he=>?_;cases e with
    |returned u=>exact⟨keep a hy u,by rw[←Act.put_comm a v u h2];exact he⟩
    |panicked c=>exact hQ _ _ _ he
    |outgrown=>exact he
   case row row args=>exact Rows.mono h fun u w'' he=>⟨keep a hy u,by rw[←Act.put_comm a v u h2];exact he⟩
  |halt x w'=>
   cases x <;> simp only[Oper.upon]at h ⊢
   case panic u=>exact hQ _ _ _ h
 ·rename_i hw;simp only[hw]at h;exact⟨keep a hy _,by rw[←Act.put_comm a v undef h2];exact h⟩
/-- whatever order is picked, and behind each operation SM holds -/
def wpG (P:Program) (md:Region.Mode) (ops:Array Oper) (Q:Exit→V_) (ps:List Nat) (S0:U1→Prop):Nat→Array Bool→V_
 |0,listed,a,w=>Region.ready md ops listed=[]∧Q .normal a w
 |fuel+1,listed,a,w=>
  (Region.ready md ops listed=[]→Q .normal a w)∧
  ∀i∈Region.ready md ops listed,wpOp P ops Q i (fun a' w'=>Sm ps S0 (listed.setIfInBounds i true) w'∧wpG P md ops Q ps S0 fuel (listed.setIfInBounds i true) a' w') a w
theorem Z8i:∀(fuel:Nat) (listed:Array Bool) (a:Act) (w:U1),wpG P md ops Q ps S0 fuel listed a w→wpAny P md ops Q fuel listed a w
 |0,_,_,_,h=>h
 |fuel+1,_,_,_,h=>⟨h.1,fun i hi=>wpOp_mono (fun a' w' h'=>Z8i fuel _ a' w' h'.2) (h.2 i hi)⟩
theorem Closed.set {L:Array Bool}{i:Nat}(hc:Closed md ops L)(hi:i∈Region.ready md ops L):Closed md ops (L.setIfInBounds i true):=by
 intro j oj hjs hj hl e he hb;by_cases hij:i=j;·subst hij;obtain⟨_,o,ho,hall⟩:=mem_ready.1 hi;rw[hj]at ho;injection ho with ho;subst ho;exact getD_set_true (hall e he hb)
 ·rw[getD_set_ne true hij]at hl;exact getD_set_true (hc j oj hjs hj hl e he hb)
theorem Sm.set_other {i:Nat}{L:Array Bool}{w:U1}(hi:i ∉ ps):Sm ps S0 (L.setIfInBounds i true) w↔Sm ps S0 L w:=by
 unfold Sm;constructor;·intro h hp;refine h fun p hm=>?_;rw[getD_set_ne true (by rintro rfl;exact hi hm)];exact hp p hm
 ·intro h hp;refine h fun p hm=>?_;have:=hp p hm;rwa [getD_set_ne true (by rintro rfl;exact hi hm)]at this
theorem Z6r {i:Nat}{oi:Oper}{v:U2}(hi:ops[i]? =some oi)(hip:i ∉ ps)(hsel:∀(j:Nat) (o:Oper) cs b,ops[j]? =some o→o.op≠ .select cs b)
  (hQ:∀c a w,Q (.panic c) (a.put oi.dst v) w→Q (.panic c) a w):
  ∀(fuel:Nat) (listed:Array Bool) (a:Act) (w:U1),
   (∀j oj,ops[j]? =some oj→j≠i→listed.getD j true=false→(∀e∈oj.after,Region.binds md e=true→e.on≠i)→oi.apart ops oj=true)→
   i∈Region.ready md ops listed→Closed md ops listed→YG P md ops ps S0 i oi v a→Sm ps S0 listed w→
   wpG P md ops Q ps S0 fuel (listed.setIfInBounds i true) (a.put oi.dst v) w→wpG P md ops Q ps S0 (fuel+1) listed a w:=by
 intro fuel;induction fuel with
 |zero=>
  intro listed a w _ hr hc hy hS H;refine⟨fun h=>(by rw[h]at hr;cases hr),fun j hj=>?_⟩;by_cases hji:j=i;·subst hji;exact hy.wpOp hi (mem_ready.1 hr).1 hc hS ⟨(Sm.set_other hip).2 hS,H⟩
  ·have:=ready_mono hj hji;rw[H.1]at this;cases this
 |succ fuel ih=>
  intro listed a w hfree hr hc hy hS H;refine⟨fun h=>(by rw[h]at hr;cases hr),fun j hj=>?_⟩;by_cases hji:j=i;·subst hji;exact hy.wpOp hi (mem_ready.1 hr).1 hc hS ⟨(Sm.set_other hip).2 hS,H⟩
  ·have h1:=H.2 j (ready_mono hj hji);obtain⟨hjun,oj,hoj,hall⟩:=mem_ready.1 hj;have hnot:∀e∈oj.after,Region.binds md e=true→e.on≠i:=fun e he hb heq=>by
    have h1:=hall e he hb;have h0:=(mem_ready.1 hr).1;rw[heq]at h1;rcases Nat.lt_or_ge i listed.size with h'|h';·simp[h']at h0 h1;rw[h0]at h1;cases h1
    ·simp[Array.getElem?_eq_none h']at h1
   have h2:=ZdI hoj (hfree j oj hoj hji hjun hnot) (fun cs b=>hsel i oi cs b hi) (fun cs b=>hsel j oj cs b hoj) hQ hy h1;have hfree':∀k ok,ops[k]? =some ok→k≠i→(listed.setIfInBounds j true).getD k true=false→
     (∀e∈ok.after,Region.binds md e=true→e.on≠i)→oi.apart ops ok=true:=fun k ok hk hki hun hno=>by
    refine hfree k ok hk hki ?_ hno;by_cases hjk:j=k;·subst hjk;exact hjun
    ·rw[getD_set_ne true hjk]at hun;exact hun
   refine wpOp_mono (fun a' w' h3=>?_) h2;have hs:Sm ps S0 (listed.setIfInBounds j true) w':=(by have:=h3.2.1;rw[Array.setIfInBounds_comm _ _ (Ne.symm hji)]at this;exact(Sm.set_other hip).1 this);refine⟨hs,ih (listed.setIfInBounds j true) a' w' hfree' (ready_mono hr (Ne.symm hji)) (hc.set hj) h3.1 hs ?_⟩;rw[Array.setIfInBounds_comm _ _ hji];exact h3.2.2
/-- p comes up behind i, in so many steps -/
def before (md:Region.Mode) (ops:Array Oper):Nat→Nat→Nat→Bool
 |0,_,_=>false
 |f+1,p,i=>match ops[p]? with
  |some o=>o.after.any (fun e=>Region.binds md e && e.on==i) ||o.after.any (fun e=>Region.binds md e && before md ops f e.on i)
  |none=>false
theorem Z8c {L:Array Bool}{i:Nat}(hu:L.getD i true=false)(hc:Closed md ops L):∀f p,before md ops f p i=true→L.getD p true=false
 |0,_,h=>by cases h
 |f+1,p,h=>by
  unfold before at h;cases ho:ops[p]? with
  |none=>rw[ho]at h;cases h
  |some o=>
   rw[ho]at h;dsimp only at h;cases hl:L.getD p true with
   |false=>rfl
   |true=>
    exfalso;have h0:p<ops.size:=(Array.getElem?_eq_some_iff.1 ho).1;have key:∀q,L.getD q false=true→L.getD q true=false→False:=fun q h4 h5=>by
     rcases Nat.lt_or_ge q L.size with h'|h';·simp[h']at h5 h4;rw[h5]at h4;cases h4
     ·simp[Array.getElem?_eq_none h']at h4
    rw[Bool.or_eq_true]at h;rcases h with h|h;·rw[Array.any_eq_true]at h;obtain⟨k,hk,h3⟩:=h;simp only[Bool.and_eq_true,beq_iff_eq]at h3;have h4:=hc p o h0 ho hl _ (Array.getElem_mem hk) h3.1;rw[h3.2]at h4;exact key i h4 hu
    ·rw[Array.any_eq_true]at h;obtain⟨k,hk,h3⟩:=h;simp only[Bool.and_eq_true]at h3;have h4:=hc p o h0 ho hl _ (Array.getElem_mem hk) h3.1;exact key _ h4 (Z8c hu hc f _ h3.2)
/-- p comes up behind i, each p -/
def waits (md:Region.Mode) (ops:Array Oper) (ps:List Nat) (i:Nat):Bool:=ps.all fun p=>decide (p<ops.size) && decide (p≠i) && before md ops 4 p i
theorem Zdl {L:Array Bool}{i:Nat}(h:waits md ops ps i=true)(hu:L.getD i true=false)(hc:Closed md ops L):∀p∈ps,L.getD p true=false:=by intro p hp;unfold waits at h;rw[List.all_eq_true]at h;have h1:=h p hp;simp only[Bool.and_eq_true,decide_eq_true_eq]at h1;exact Z8c hu hc 4 p h1.2
def VB (md:Region.Mode) (ops:Array Oper) (L:Array Bool):Bool:=(List.range ops.size).all fun j=>match ops[j]? with|some o=> !(L.getD j true) ||o.after.all (fun e=> !(Region.binds md e) ||L.getD e.on false)|none=>true
theorem Z5R {L:Array Bool}(h:VB md ops L=true):Closed md ops L:=by intro j oj hjs hj hl e he hb;unfold VB at h;rw[List.all_eq_true]at h;have h1:=h j (List.mem_range.2 hjs);rw[hj]at h1;simp only[hl,Bool.not_true,Bool.false_or]at h1;rw[Array.all_eq_true_iff_forall_mem]at h1;have:=h1 e he;rw[hb]at this;simpa using this
def Z1x (ps:List Nat) (i:Nat):Bool:=ps.all fun p=>decide (p≠i)
theorem Z63 {i:Nat}(h:Z1x ps i=true):i ∉ ps:=fun hm=>by unfold Z1x at h;rw[List.all_eq_true]at h;have:=h i hm;simp at this
/-- what is left of the region, and the order -/
def Zv (P:Program) (md:Region.Mode) (ops:Array Oper) (Q:Exit→V_) (ps:List Nat) (S0:U1→Prop) (_order:List Nat) (fuel:Nat) (listed:Array Bool) (a:Act) (w:U1):Prop:=wpG P md ops Q ps S0 fuel listed a w
theorem Zv.begin {id:Nat}{a:Act}{w:U1}(ps:List Nat)(S0:U1→Prop)(order:List Nat)(hm:P.follows .mixedOrders=true)(hS:S0 w.drew)
  (h:S0 w.drew→Zv P .any ops Q ps S0 order ops.size (Array.replicate ops.size false) a w.drew):(Code.region id ops true).wp P Q a w:=
 wp_region_any hm (Z8i _ _ _ _ (h hS))
section
variable {i fuel:Nat} {order:List Nat} {listed:Array Bool} {a:Act} {w:U1} {oi:Oper} {v:U2}
theorem Zv.no (hi:ops.toList[i]? =some oi)(hs:Region.noSelect ops=true)(hf:Region.free md ops listed i=true)(hr:(Region.ready md ops listed).contains i=true)(hc:VB md ops listed=true)(hn:Z1x ps i=true)
  (hQ:∀c a w,Q (.panic c) (a.put oi.dst undef) w→Q (.panic c) a w) (hw:Region.wanted oi (yielded ops a.tmps)=false) (hS:Sm ps S0 listed w)
  (h:Zv P md ops Q ps S0 order fuel (listed.setIfInBounds i true) (a.put oi.dst undef) w):Zv P md ops Q ps S0 (i::order) (fuel+1) listed a w:=
 Z6r (by simpa using hi) (Z63 hn) (Region.noSelect_spec hs) hQ fuel listed a w (Region.free_spec (by simpa using hi) hf) (by simpa using hr) (Z5R hc) (Or.inr ⟨hw,rfl⟩) hS h
theorem Zv.yes (hi:ops.toList[i]? =some oi)(hs:Region.noSelect ops=true)(hf:Region.free md ops listed i=true)(hr:(Region.ready md ops listed).contains i=true)(hc:VB md ops listed=true)(hn:waits md ops ps i=true)
  (hQ:∀c a w,Q (.panic c) (a.put oi.dst v) w→Q (.panic c) a w) (hw:Region.wanted oi (yielded ops a.tmps)=true) (hS:Sm ps S0 listed w) (hy:∀w,S0 w→Pure P oi v a w)
  (h:Zv P md ops Q ps S0 order fuel (listed.setIfInBounds i true) (a.put oi.dst v) w):Zv P md ops Q ps S0 (i::order) (fuel+1) listed a w:=by
 have hni:Z1x ps i=true:=by unfold waits at hn;unfold Z1x;rw[List.all_eq_true]at hn ⊢;intro p hp;have:=hn p hp;simp only[Bool.and_eq_true]at this;exact this.1.2
 exact Z6r (by simpa using hi) (Z63 hni) (Region.noSelect_spec hs) hQ fuel listed a w (Region.free_spec (by simpa using hi) hf) (by simpa using hr) (Z5R hc) (Or.inl ⟨hw,fun L w' hu hcl hSL=>hy w' (hSL (Zdl hn hu hcl))⟩) hS h
theorem Zv.free (hi:ops.toList[i]? =some oi)(hs:Region.noSelect ops=true)(hf:Region.free md ops listed i=true)(hr:(Region.ready md ops listed).contains i=true)(hc:VB md ops listed=true)(hn:Z1x ps i=true)
  (hQ:∀c a w,Q (.panic c) (a.put oi.dst v) w→Q (.panic c) a w) (hw:Region.wanted oi (yielded ops a.tmps)=true) (hS:Sm ps S0 listed w) (hy:∀w,Pure P oi v a w)
  (h:Zv P md ops Q ps S0 order fuel (listed.setIfInBounds i true) (a.put oi.dst v) w):Zv P md ops Q ps S0 (i::order) (fuel+1) listed a w:=
 Z6r (by simpa using hi) (Z63 hn) (Region.noSelect_spec hs) hQ fuel listed a w (Region.free_spec (by simpa using hi) hf) (by simpa using hr) (Z5R hc) (Or.inl ⟨hw,fun L w' _ _ _=>hy w'⟩) hS h
theorem Zv.go (hi:ops.toList[i]? =some oi)(hr:Region.ready md ops listed=[i])(hw:Region.wanted oi (yielded ops a.tmps)=true)
  (h:∀K':V_,Shut (∀a w,S0 w→(S0 w→Zv P md ops Q ps S0 order fuel (listed.setIfInBounds i true) a w)→K' a w)→Oper.wp P oi a w K' Q):Zv P md ops Q ps S0 (i::order) (fuel+1) listed a w:=by
 refine⟨(fun h0=>by rw[hr]at h0;cases h0),fun j hj=>?_⟩;rw[hr]at hj;have hji:j=i:=by simpa using hj
 subst hji;have hi':ops[j]? =some oi:=by simpa using hi
 unfold wpOp;simp only[hi',hw,if_true];exact .inl (h _ (fun a w h1 h2=>⟨fun _=>h1,h2 h1⟩))
theorem Zv.mark {p:Nat}(hi:ops.toList[i]? =some oi)(hr:Region.ready md ops listed=[i])(hw:Region.wanted oi (yielded ops a.tmps)=true)(hp:ps.contains p=true)(hl:(listed.setIfInBounds i true).getD p true=true)
  (h:∀K':V_,Shut (∀a w,Zv P md ops Q ps S0 order fuel (listed.setIfInBounds i true) a w→K' a w)→Oper.wp P oi a w K' Q):Zv P md ops Q ps S0 (i::order) (fuel+1) listed a w:=by
 refine⟨(fun h0=>by rw[hr]at h0;cases h0),fun j hj=>?_⟩;rw[hr]at hj;have hji:j=i:=by simpa using hj
 subst hji;have hi':ops[j]? =some oi:=by simpa using hi
 unfold wpOp;simp only[hi',hw,if_true];exact .inl (h _ (fun a w h1=>⟨(fun hall=>by rw[hall p (by simpa using hp)]at hl;cases hl),h1⟩))
theorem Zv.two {j:Nat}{oj:Oper}(o1 o2:List Nat)(hi:ops.toList[i]? =some oi)(hj:ops.toList[j]? =some oj)(hr:Region.ready md ops listed=[i,j])(hw:Region.wanted oi (yielded ops a.tmps)=true)(hw2:Region.wanted oj (yielded ops a.tmps)=true)
  (h:∀K':V_,Shut (∀a w,S0 w→(S0 w→Zv P md ops Q ps S0 o1 fuel (listed.setIfInBounds i true) a w)→K' a w)→Oper.wp P oi a w K' Q)
  (h2:∀K':V_,Shut (∀a w,S0 w→(S0 w→Zv P md ops Q ps S0 o2 fuel (listed.setIfInBounds j true) a w)→K' a w)→Oper.wp P oj a w K' Q):Zv P md ops Q ps S0 [] (fuel+1) listed a w:=by
 refine⟨(fun h0=>by rw[hr]at h0;cases h0),fun k hk=>?_⟩;rw[hr]at hk;have hi':ops[i]? =some oi:=by simpa using hi
 have hj':ops[j]? =some oj:=by simpa using hj
 have hk':k=i∨k=j:=by simpa using hk
 rcases hk' with rfl|rfl;·unfold wpOp;simp only[hi',hw,if_true];exact .inl (h _ (fun a w h1 h2=>⟨fun _=>h1,h2 h1⟩))
 ·unfold wpOp;simp only[hj',hw2,if_true];exact .inl (h2 _ (fun a w h1 h2=>⟨fun _=>h1,h2 h1⟩))
theorem Zv.done (hr:Region.ready md ops listed=[])(h:Q .normal a w):Zv P md ops Q ps S0 [] fuel listed a w:=by
 cases fuel with
 |zero=>exact⟨hr,h⟩
 |succ n=>exact⟨fun _=>h,fun i hi=>by rw[hr]at hi;cases hi⟩
end
/-- behind a mark nothing is asked -/
theorem Sm.past {L:Array Bool}{w:U1}{p:Nat}(hp:ps.contains p=true)(h:L.getD p true=true):Sm ps S0 L w:=fun hall=>by rw[hall p (by simpa using hp)]at h;cases h
theorem Sm.of {L:Array Bool}{w:U1}(h:S0 w):Sm ps S0 L w:=fun _=>h
theorem Pure.val {o:Oper}{v:U2}{a:Act}{w:U1}(h:(execOp a.eval o).run P w=.ok (.value v) w):Pure P o v a w:= .inl h
theorem Pure.call {o:Oper}{v:U2}{a:Act}{w:U1}(f:FuncId)(args:Array U2)(h:(execOp a.eval o).run P w=.ok (.enter f args) w)(hc:Calls P f args w fun e w'=>e=.returned v∧w=w'):Pure P o v a w:= .inr ⟨f,args,h,hc⟩
end
end
section
section
variable {P:Program} {md:Region.Mode} {ops:Array Oper} {Q:Exit→V_} {ps:List Nat} {S0:U1→Prop} {i fuel:Nat} {order:List Nat} {listed:Array Bool} {a:Act} {w:U1} {oi:Oper} {v:U2}
theorem Zv.nA (hS:Sm ps S0 listed w)(h:Zv P md ops Q ps S0 order fuel (listed.setIfInBounds i true) (a.put oi.dst undef) w)
  (hi:ops.toList[i]? =some oi:=by rfl) (hs:Region.noSelect ops=true:=by kernel_rfl) (hf:Region.free md ops listed i=true:=by kernel_rfl) (hr:(Region.ready md ops listed).contains i=true:=by kernel_rfl) (hc:VB md ops listed=true:=by kernel_rfl) (hn:Z1x ps i=true:=by kernel_rfl)
  (hQ:∀c a w,Q (.panic c) (a.put oi.dst undef) w→Q (.panic c) a w:=by exact fun _ _ _ h=>h) (hw:Region.wanted oi (yielded ops a.tmps)=false:=by kernel_rfl):Zv P md ops Q ps S0 (i::order) (fuel+1) listed a w:=Zv.no hi hs hf hr hc hn hQ hw hS h
theorem Zv.yA (hS:Sm ps S0 listed w)(hy:∀w,S0 w→Pure P oi v a w)(h:Zv P md ops Q ps S0 order fuel (listed.setIfInBounds i true) (a.put oi.dst v) w)
  (hi:ops.toList[i]? =some oi:=by rfl) (hs:Region.noSelect ops=true:=by kernel_rfl) (hf:Region.free md ops listed i=true:=by kernel_rfl) (hr:(Region.ready md ops listed).contains i=true:=by kernel_rfl) (hc:VB md ops listed=true:=by kernel_rfl) (hn:waits md ops ps i=true:=by kernel_rfl)
  (hQ:∀c a w,Q (.panic c) (a.put oi.dst v) w→Q (.panic c) a w:=by exact fun _ _ _ h=>h) (hw:Region.wanted oi (yielded ops a.tmps)=true:=by kernel_rfl):Zv P md ops Q ps S0 (i::order) (fuel+1) listed a w:=Zv.yes hi hs hf hr hc hn hQ hw hS hy h
theorem Zv.yV (hS:Sm ps S0 listed w)(h:Zv P md ops Q ps S0 order fuel (listed.setIfInBounds i true) (a.put oi.dst v) w)
  (hi:ops.toList[i]? =some oi:=by rfl) (hs:Region.noSelect ops=true:=by kernel_rfl) (hf:Region.free md ops listed i=true:=by kernel_rfl) (hr:(Region.ready md ops listed).contains i=true:=by kernel_rfl) (hc:VB md ops listed=true:=by kernel_rfl) (hn:waits md ops ps i=true:=by kernel_rfl)
  (hw:Region.wanted oi (yielded ops a.tmps)=true:=by kernel_rfl) (hy:∀w,S0 w→Pure P oi v a w:=by(intro w hSw;(try dsimp only at hSw);apply Pure.val;go_simp;(try with_reducible rfl);done)) (hQ:∀c a w,Q (.panic c) (a.put oi.dst v) w→Q (.panic c) a w:=by exact fun _ _ _ h=>h):Zv P md ops Q ps S0 (i::order) (fuel+1) listed a w:=Zv.yes hi hs hf hr hc hn hQ hw hS hy h
theorem Zv.fA (hS:Sm ps S0 listed w)(hy:∀w,Pure P oi v a w)(h:Zv P md ops Q ps S0 order fuel (listed.setIfInBounds i true) (a.put oi.dst v) w)
  (hi:ops.toList[i]? =some oi:=by rfl) (hs:Region.noSelect ops=true:=by kernel_rfl) (hf:Region.free md ops listed i=true:=by kernel_rfl) (hr:(Region.ready md ops listed).contains i=true:=by kernel_rfl) (hc:VB md ops listed=true:=by kernel_rfl) (hn:Z1x ps i=true:=by kernel_rfl)
  (hQ:∀c a w,Q (.panic c) (a.put oi.dst v) w→Q (.panic c) a w:=by exact fun _ _ _ h=>h) (hw:Region.wanted oi (yielded ops a.tmps)=true:=by kernel_rfl):Zv P md ops Q ps S0 (i::order) (fuel+1) listed a w:=Zv.free hi hs hf hr hc hn hQ hw hS hy h
theorem Zv.gA (h:∀K':V_,Shut (∀a w,S0 w→(S0 w→Zv P md ops Q ps S0 order fuel (listed.setIfInBounds i true) a w)→K' a w)→Oper.wp P oi a w K' Q)(hi:ops.toList[i]? =some oi:=by rfl)(hr:Region.ready md ops listed=[i]:=by kernel_rfl)(hw:Region.wanted oi (yielded ops a.tmps)=true:=by kernel_rfl):
  Zv P md ops Q ps S0 (i::order) (fuel+1) listed a w:=Zv.go hi hr hw h
end
theorem aS (a:Act)(d:Tmp)(v:U2):a.put (some d) v={ a with tmps:=a.tmps.setIfInBounds d v}:=rfl
theorem aN (a:Act)(v:U2):a.put none v=a:=rfl
theorem aA {α:Type}(l:List α)(i:Nat)(x:α):l.toArray.setIfInBounds i x=(l.set i x).toArray:=List.setIfInBounds_toArray ..
theorem aY {α:Type}(x:α)(l:List α)(y:α):(x::l).set 0 y=y::l:=rfl
theorem aX {α:Type}(x:α)(l:List α)(i:Nat)(y:α):(x::l).set (i+1) y=x::l.set i y:=rfl
end
section
section
variable {P:Program} {md:Region.Mode} {ops:Array Oper} {Q:Exit→V_} {ps:List Nat} {S0:U1→Prop} {i fuel:Nat} {order:List Nat} {listed l':Array Bool} {a a':Act} {w:U1} {oi:Oper} {v:U2}
theorem Y4 {o:Oper}{v:U2}{a:Act}{w:U1}(h:(execOp a.eval o).run P w=.ok (.value v) w:=by go_simp;(try with_reducible rfl);done):Pure P o v a w:= .inl h
theorem sP (p:Nat)(hp:ps.contains p=true:=by kernel_rfl)(h:listed.getD p true=true:=by kernel_rfl):Sm ps S0 listed w:=Sm.past hp h
theorem oN (h:Zv P md ops Q ps S0 order fuel l' a' w)(hS:Sm ps S0 listed w:=by exact Sm.of hS)
  (hi:ops.toList[i]? =some oi:=by rfl) (hs:Region.noSelect ops=true:=by kernel_rfl) (hf:Region.free md ops listed i=true:=by kernel_rfl) (hr:(Region.ready md ops listed).contains i=true:=by kernel_rfl) (hc:VB md ops listed=true:=by kernel_rfl) (hn:Z1x ps i=true:=by kernel_rfl)
  (hQ:∀c a w,Q (.panic c) (a.put oi.dst undef) w→Q (.panic c) a w:=by exact fun _ _ _ h=>h) (hw:Region.wanted oi (yielded ops a.tmps)=false:=by kernel_rfl)
  (ha:a.put oi.dst undef=a':=by(try simp only[aS,aN,aA,aY,aX]);first|done|rfl) (hl:listed.setIfInBounds i true=l':=by(try simp only[aA,aY,aX]);first|done|rfl):Zv P md ops Q ps S0 (i::order) (fuel+1) listed a w:=by
 subst ha hl;exact Zv.no hi hs hf hr hc hn hQ hw hS h
theorem oC (hi:ops.toList[i]? =some oi:=by rfl)(hs:Region.noSelect ops=true:=by kernel_rfl)(hf:Region.free md ops listed i=true:=by kernel_rfl)(hr:(Region.ready md ops listed).contains i=true:=by kernel_rfl)(hc:VB md ops listed=true:=by kernel_rfl)(hn:waits md ops ps i=true:=by kernel_rfl)(hw:Region.wanted oi (yielded ops a.tmps)=true:=by kernel_rfl)
  (y:∀w,S0 w→Pure P oi v a w) (s:Sm ps S0 listed w:=by exact Sm.of hS) (hQ:∀c a w,Q (.panic c) (a.put oi.dst v) w→Q (.panic c) a w:=by exact fun _ _ _ h=>h)
  (ha:a.put oi.dst v=a':=by(try simp only[aS,aN,aA,aY,aX]);first|done|rfl) (hl:listed.setIfInBounds i true=l':=by(try simp only[aA,aY,aX]);first|done|rfl) (h:Zv P md ops Q ps S0 order fuel l' a' w):Zv P md ops Q ps S0 (i::order) (fuel+1) listed a w:=by
 subst ha hl;exact Zv.yes hi hs hf hr hc hn hQ hw s y h
theorem ZH {F0:U1→Prop}(f0:∀w,S0 w→F0 w)(h:Zv P md ops Q ps S0 order fuel l' a' w)(hS:Sm ps S0 listed w:=by exact Sm.of hS)
  (hi:ops.toList[i]? =some oi:=by rfl) (hs:Region.noSelect ops=true:=by kernel_rfl) (hf:Region.free md ops listed i=true:=by kernel_rfl) (hr:(Region.ready md ops listed).contains i=true:=by kernel_rfl) (hc:VB md ops listed=true:=by kernel_rfl) (hn:waits md ops ps i=true:=by kernel_rfl)
  (hw:Region.wanted oi (yielded ops a.tmps)=true:=by kernel_rfl) (hy:∀w,F0 w→Pure P oi v a w:=by(intro w q0;apply Pure.val;go_simp;(try with_reducible rfl);done)) (hQ:∀c a w,Q (.panic c) (a.put oi.dst v) w→Q (.panic c) a w:=by exact fun _ _ _ h=>h)
  (ha:a.put oi.dst v=a':=by(try simp only[aS,aN,aA,aY,aX]);first|done|rfl) (hl:listed.setIfInBounds i true=l':=by(try simp only[aA,aY,aX]);first|done|rfl):Zv P md ops Q ps S0 (i::order) (fuel+1) listed a w:=by
 subst ha hl;exact Zv.yes hi hs hf hr hc hn hQ hw hS (fun w s=>hy w (f0 w s)) h
theorem o2_ {F0 F1:U1→Prop}(f0:∀w,S0 w→F0 w)(f1:∀w,S0 w→F1 w)(h:Zv P md ops Q ps S0 order fuel l' a' w)(hS:Sm ps S0 listed w:=by exact Sm.of hS)
  (hi:ops.toList[i]? =some oi:=by rfl) (hs:Region.noSelect ops=true:=by kernel_rfl) (hf:Region.free md ops listed i=true:=by kernel_rfl) (hr:(Region.ready md ops listed).contains i=true:=by kernel_rfl) (hc:VB md ops listed=true:=by kernel_rfl) (hn:waits md ops ps i=true:=by kernel_rfl)
  (hw:Region.wanted oi (yielded ops a.tmps)=true:=by kernel_rfl) (hy:∀w,F0 w→F1 w→Pure P oi v a w:=by(intro w q0 q1;apply Pure.val;go_simp;(try with_reducible rfl);done)) (hQ:∀c a w,Q (.panic c) (a.put oi.dst v) w→Q (.panic c) a w:=by exact fun _ _ _ h=>h)
  (ha:a.put oi.dst v=a':=by(try simp only[aS,aN,aA,aY,aX]);first|done|rfl) (hl:listed.setIfInBounds i true=l':=by(try simp only[aA,aY,aX]);first|done|rfl):Zv P md ops Q ps S0 (i::order) (fuel+1) listed a w:=by
 subst ha hl;exact Zv.yes hi hs hf hr hc hn hQ hw hS (fun w s=>hy w (f0 w s) (f1 w s)) h
theorem o3_ {F0 F1 F2:U1→Prop}(f0:∀w,S0 w→F0 w)(f1:∀w,S0 w→F1 w)(f2:∀w,S0 w→F2 w)(h:Zv P md ops Q ps S0 order fuel l' a' w)(hS:Sm ps S0 listed w:=by exact Sm.of hS)
  (hi:ops.toList[i]? =some oi:=by rfl) (hs:Region.noSelect ops=true:=by kernel_rfl) (hf:Region.free md ops listed i=true:=by kernel_rfl) (hr:(Region.ready md ops listed).contains i=true:=by kernel_rfl) (hc:VB md ops listed=true:=by kernel_rfl) (hn:waits md ops ps i=true:=by kernel_rfl)
  (hw:Region.wanted oi (yielded ops a.tmps)=true:=by kernel_rfl) (hy:∀w,F0 w→F1 w→F2 w→Pure P oi v a w:=by(intro w q0 q1 q2;apply Pure.val;go_simp;(try with_reducible rfl);done)) (hQ:∀c a w,Q (.panic c) (a.put oi.dst v) w→Q (.panic c) a w:=by exact fun _ _ _ h=>h)
  (ha:a.put oi.dst v=a':=by(try simp only[aS,aN,aA,aY,aX]);first|done|rfl) (hl:listed.setIfInBounds i true=l':=by(try simp only[aA,aY,aX]);first|done|rfl):Zv P md ops Q ps S0 (i::order) (fuel+1) listed a w:=by
 subst ha hl;exact Zv.yes hi hs hf hr hc hn hQ hw hS (fun w s=>hy w (f0 w s) (f1 w s) (f2 w s)) h
theorem oV (h:Zv P md ops Q ps S0 order fuel l' a' w)(hS:Sm ps S0 listed w:=by exact Sm.of hS)
  (hi:ops.toList[i]? =some oi:=by rfl) (hs:Region.noSelect ops=true:=by kernel_rfl) (hf:Region.free md ops listed i=true:=by kernel_rfl) (hr:(Region.ready md ops listed).contains i=true:=by kernel_rfl) (hc:VB md ops listed=true:=by kernel_rfl) (hn:waits md ops ps i=true:=by kernel_rfl)
  (hw:Region.wanted oi (yielded ops a.tmps)=true:=by kernel_rfl) (hy:∀w,S0 w→Pure P oi v a w:=by(intro w hSw;(try dsimp only at hSw);apply Pure.val;go_simp;(try with_reducible rfl);done)) (hQ:∀c a w,Q (.panic c) (a.put oi.dst v) w→Q (.panic c) a w:=by exact fun _ _ _ h=>h)
  (ha:a.put oi.dst v=a':=by(try simp only[aS,aN,aA,aY,aX]);first|done|rfl) (hl:listed.setIfInBounds i true=l':=by(try simp only[aA,aY,aX]);first|done|rfl):Zv P md ops Q ps S0 (i::order) (fuel+1) listed a w:=by
 subst ha hl;exact Zv.yes hi hs hf hr hc hn hQ hw hS hy h
theorem oF (h:Zv P md ops Q ps S0 order fuel l' a' w)(hS:Sm ps S0 listed w:=by exact Sm.of hS)
  (hi:ops.toList[i]? =some oi:=by rfl) (hs:Region.noSelect ops=true:=by kernel_rfl) (hf:Region.free md ops listed i=true:=by kernel_rfl) (hr:(Region.ready md ops listed).contains i=true:=by kernel_rfl) (hc:VB md ops listed=true:=by kernel_rfl) (hn:Z1x ps i=true:=by kernel_rfl)
  (hw:Region.wanted oi (yielded ops a.tmps)=true:=by kernel_rfl) (hy:∀w,Pure P oi v a w:=by(intro w;apply Pure.val;go_simp;(try with_reducible rfl);done)) (hQ:∀c a w,Q (.panic c) (a.put oi.dst v) w→Q (.panic c) a w:=by exact fun _ _ _ h=>h)
  (ha:a.put oi.dst v=a':=by(try simp only[aS,aN,aA,aY,aX]);first|done|rfl) (hl:listed.setIfInBounds i true=l':=by(try simp only[aA,aY,aX]);first|done|rfl):Zv P md ops Q ps S0 (i::order) (fuel+1) listed a w:=by
 subst ha hl;exact Zv.free hi hs hf hr hc hn hQ hw hS hy h
theorem oG (h:∀K':V_,Shut (∀a w,S0 w→(S0 w→Zv P md ops Q ps S0 order fuel l' a w)→K' a w)→Oper.wp P oi a w K' Q)(hi:ops.toList[i]? =some oi:=by rfl)(hr:Region.ready md ops listed=[i]:=by kernel_rfl)(hw:Region.wanted oi (yielded ops a.tmps)=true:=by kernel_rfl)
  (hl:listed.setIfInBounds i true=l':=by(try simp only[aA,aY,aX]);first|done|rfl):Zv P md ops Q ps S0 (i::order) (fuel+1) listed a w:=by
 subst hl;exact Zv.go hi hr hw h
theorem oS {id:Nat}(ps:List Nat)(S0:U1→Prop)(order:List Nat)(hS:S0 w.drew)(h:S0 w.drew→Zv P .any ops Q ps S0 order ops.size (Array.replicate ops.size false) a w.drew)(hm:P.follows .mixedOrders=true:=by kernel_rfl):(Code.region id ops true).wp P Q a w:=Zv.begin ps S0 order hm hS h
theorem oM (p:Nat)(h:∀K':V_,Shut (∀a w,Zv P md ops Q ps S0 order fuel l' a w→K' a w)→Oper.wp P oi a w K' Q)(hi:ops.toList[i]? =some oi:=by rfl)(hr:Region.ready md ops listed=[i]:=by kernel_rfl)(hw:Region.wanted oi (yielded ops a.tmps)=true:=by kernel_rfl)(hp:ps.contains p=true:=by kernel_rfl)(hl:(listed.setIfInBounds i true).getD p true=true:=by kernel_rfl)
  (hl':listed.setIfInBounds i true=l':=by(try simp only[aA,aY,aX]);first|done|rfl):Zv P md ops Q ps S0 (i::order) (fuel+1) listed a w:=by
 subst hl';exact Zv.mark hi hr hw hp hl h
theorem oT {oj:Oper}{l2:Array Bool}(i j:Nat)(o1 o2:List Nat)(h:∀K':V_,Shut (∀a w,S0 w→(S0 w→Zv P md ops Q ps S0 o1 fuel l' a w)→K' a w)→Oper.wp P oi a w K' Q)
  (h2:∀K':V_,Shut (∀a w,S0 w→(S0 w→Zv P md ops Q ps S0 o2 fuel l2 a w)→K' a w)→Oper.wp P oj a w K' Q) (hi:ops.toList[i]? =some oi:=by rfl) (hj:ops.toList[j]? =some oj:=by rfl) (hr:Region.ready md ops listed=[i,j]:=by kernel_rfl) (hw:Region.wanted oi (yielded ops a.tmps)=true:=by kernel_rfl) (hw2:Region.wanted oj (yielded ops a.tmps)=true:=by kernel_rfl)
  (hl:listed.setIfInBounds i true=l':=by(try simp only[aA,aY,aX]);first|done|rfl) (hl2:listed.setIfInBounds j true=l2:=by(try simp only[aA,aY,aX]);first|done|rfl):Zv P md ops Q ps S0 [] (fuel+1) listed a w:=by
 subst hl hl2;exact Zv.two o1 o2 hi hj hr hw hw2 h h2
theorem oL {K:V_}{T:V_}(hK:Shut (∀a w,T a w→K a w))(h:T a' w)(ha:a=a':=by(try simp only[aS,aN,aA,aY,aX]);first|done|rfl):K a w:=by subst ha;exact hK a w h
theorem oD (h:Q .normal a w)(hr:Region.ready md ops listed=[]:=by kernel_rfl):Zv P md ops Q ps S0 [] fuel listed a w:=Zv.done hr h
theorem oK {K:V_}{T:V_}(hK:Shut (∀a w,S0 w→(S0 w→T a w)→K a w))(hS:S0 w)(h:S0 w→T a' w)(ha:a=a':=by(try simp only[aS,aN,aA,aY,aX]);first|done|rfl):K a w:=by subst ha;exact hK a w hS h
end
end
theorem Xw {P:Program}{o:Oper}{a:Act}{K:V_}{Q:Exit→V_}
  (l c:Operand) (t:TypeId) (k:o.op=Op.makeSlice t l c)
  (e:TypeId) (i:TypeInfo) (z:U2) (d:Nat) (p:P.underlying t=some (.slice e)) (q:P.info? e=some i) (r:i.zero=some z) (s:i.size=1) (v:i.bytes=d) (x:z.cells= #[z])
  (f g:IntKind) (L C:Int) (n m:Nat) (y:a.eval l=.int f L) (A:a.eval c=.int g C) (B:L=(n:Int)) (D:C=(m:Int)) (F:n≤m) (G:d*m≤281474976710656) (H:m≤9223372036854775807)
  (hK:∀b,Row b w e (List.replicate m z)→Below w w b→b.heap.size=w.heap.size+1→K (a.put o.dst (w.heap.size,n,m)) b):
  Oper.wp P o a w K Q:=by
 subst v B D;have E:(i.bytes:Int)*m≤281474976710656:=by have h:((i.bytes*m:Nat):Int)≤281474976710656:=Y;rwa [Z3E]at h
 have j:=run_make (P:=P) w t e i z p q r f g n m Y Y E Y;simp only[ZL,s,Wy,x]at j;unfold Oper.wp;simp[execOp,k,y,A,j,Result.andThen];refine hK _ ?_ ((Z8 _ _).alloc (Z4 _) _) Ze;have:=Row.new w e (madeCells #[z] m);rwa [toList_madeCells_one]at this
theorem WJ {P:Program}{o:Oper}{a:Act}{K:V_}{Q:Exit→V_}(t e:TypeId)(x:Operand)(f:o.op=.buildSlice t 1 #[(0,x)])(v:U2)(i:a.eval x=v)(j:v.cells= #[v])
  (b:TypeInfo) (z:U2) (k:P.underlying t=some (.slice e)) (l:P.info? e=some b) (m:b.zero=some z) (d:b.size=1) (n:z.cells= #[z])
  (h:∀c g,w.heap.size=g→Row c g e [v]→Below g w c→c.heap.size=g+1→K (a.put o.dst (g,1,1)) c):Oper.wp P o a w K Q:=by
 refine wp_buildSlice t e 1 _ f #[v] b z k l m (by rw[d];omega) (by rw[d];omega) ?_ ?_;·rw[d,n];simp[i,Instr.fill,j];apply Array.ext';simp[Z1P,Wp]
 ·exact h _ _ rfl (Row.new w e #[v]) ((Z8 _ _).alloc (Z4 _) _) Ze
theorem Z2y {P:Program}{o:Oper}{a:Act}{K:V_}{Q:Exit→V_}(t e:TypeId)(x:Operand)(j:o.op=.buildSlice t 1 #[(0,x)])(b c:U2)(k:a.eval x=.agg #[b,c])
  (d:TypeInfo) (l m:U2) (n:P.underlying t=some (.slice e)) (p:P.info? e=some d) (q:d.zero=some (.agg #[l,m])) (i:d.size=2)
  (h:∀f g,w.heap.size=g→Row f g e [b,c]→Below g w f→f.heap.size=g+1→K (a.put o.dst (g,1,1)) f):Oper.wp P o a w K Q:=by
 refine wp_buildSlice t e 1 _ j #[b,c] d _ n p q (by rw[i];omega) (by rw[i];omega) ?_ ?_;·rw[i];simp[k,Instr.fill,Value.cells];apply Array.ext';simp[Z1P,Wp]
 ·exact h _ _ rfl (Row.new w e #[b,c]) ((Z8 _ _).alloc (Z4 _) _) Ze
theorem Z2z {P:Program}{o:Oper}{a:Act}{K:V_}{Q:Exit→V_}(t:TypeId)(c:o.op=.alloc t)(i:TypeInfo)(z:U2)(d:P.info? t=some i)(e:i.zero=some z)
  (h:∀b g,w.heap.size=g→Row b g t z.cells.toList→Below g w b→b.heap.size=g+1→K (a.put o.dst (g,())) b):Oper.wp P o a w K Q:=by
 have f:(Instr.alloc t true (.tuple #[])).run P w=.ok (w.heap.size,()) (w.alloc (.cells z.cells t)):=by simp[Instr.alloc,zeroValue,typeInfo,d,e,newVar,newRow]
 unfold Oper.wp execOp;simp only[c,Sem.run_bind,f,Result.andThen_ok];exact h _ _ rfl (by simpa using Row.new w t z.cells) ((Z8 _ _).alloc (Z4 _) _) Ze
theorem Zfk {P:Program}{o:Oper}{a:Act}{K:V_}{Q:Exit→V_}(t e:TypeId)(x y z:Operand)(j:o.op=.buildSlice t 3 #[(0,x),(1,y),(2,z)])(b c d:U2)(k:a.eval x=b)(l:a.eval y=c)(m:a.eval z=d)
  (n:b.cells= #[b]) (p:c.cells= #[c]) (q:d.cells= #[d])
  (f:TypeInfo) (g:U2) (r:P.underlying t=some (.slice e)) (s:P.info? e=some f) (v:f.zero=some g) (i:f.size=1) (A:g.cells= #[g])
  (h:K (a.put o.dst (w.heap.size,3,3)) (w.alloc (.cells #[b,c,d] e))):Oper.wp P o a w K Q:=by
 refine wp_buildSlice t e 3 _ j #[b,c,d] f g r s v (by rw[i];omega) (by rw[i];omega) ?_ h;rw[i,A];simp[k,l,m,Instr.fill,n,p,q];apply Array.ext';simp[Z1P,Wp]
theorem Z91 {P:Program}{o:Oper}{a:Act}{K:V_}{Q:Exit→V_}(t e:TypeId)(x:Operand)(q:o.op=.buildSlice t 1 #[(0,x)])(b c d f i j k l:U2)(r:a.eval x=.agg #[b,c,d,f,i,j,k,l])
  (m:TypeInfo) (s v y z A B C D:U2) (E:P.underlying t=some (.slice e)) (F:P.info? e=some m) (G:m.zero=some (.agg #[s,v,y,z,A,B,C,D])) (p:m.size=8)
  (h:∀n g,w.heap.size=g→Row n g e [b,c,d,f,i,j,k,l]→Below g w n→n.heap.size=g+1→K (a.put o.dst (g,1,1)) n):Oper.wp P o a w K Q:=by
 refine wp_buildSlice t e 1 _ q #[b,c,d,f,i,j,k,l] m _ E F G (by rw[p];omega) (by rw[p];omega) ?_ ?_;·rw[p];simp[r,Instr.fill,Value.cells];apply Array.ext';simp[Z1P,Wp]
 ·exact h _ _ rfl (Row.new w e #[b,c,d,f,i,j,k,l]) ((Z8 _ _).alloc (Z4 _) _) Ze
abbrev BL:=List (BitVec 8)
def pad (b:BL):BL:=b++List.replicate (55-b.length) 0#8
def front (k:BitVec 8) (b:BL):BL:= [0x57#8,0x73#8,1#8,k]++pad b
def frame (k:BitVec 8) (b:BL):BL:=front k b++le4 (crc (front k b))++ [0xa5#8]
def cellL (a:Int) (b:BL):BL:=if 1≤a∧a≤255∧b.length≤55 then frame (BitVec.ofNat 8 a.toNat) b else []
def Vq (b:BL):Option (BitVec 8×BL):=
 if b.length=64∧cellL ((b.getD 3 0).toNat) ((b.drop 4).take 55)=b then some (b.getD 3 0,(b.drop 4).take 55) else none
theorem Z5i {b:BL}(h:b.length≤55):(pad b).length=55:=by unfold pad;simp;omega
theorem ZhC {b:BL}(h:b.length=55):pad b=b:=by unfold pad;simp[h]
theorem Z79 (c:BitVec 32):(le4 c).length=4:=rfl
theorem Z4R {k:BitVec 8}{b:BL}(h:b.length≤55):(front k b).length=59:=by unfold front;rw[Zw,Z5i h];rfl
theorem Z3T {k:BitVec 8}{b:BL}(h:b.length≤55):(frame k b).length=64:=by unfold frame;rw[Zw,Zw,Z4R h,Z79];rfl
theorem Z3l {b:BL}(h:1≤c∧c≤255∧b.length≤55):cellL c b=frame (BitVec.ofNat 8 c.toNat) b:=if_pos h
theorem Z9H {b:BL}(h:¬(1≤c∧c≤255∧b.length≤55)):cellL c b=[]:=if_neg h
theorem Zd3 {k:BitVec 8}{b:BL}:(frame k b).getD 3 0=k:=by unfold frame front;simp
theorem ZcM {k:BitVec 8}{b:BL}(h:b.length≤55):((frame k b).drop 4).take 55=pad b:=by
 unfold frame front;have:=Z5i h;simp[List.take_append,this];try rw[ZP Y,ZP Y]
 try simp
theorem ZdK {k:BitVec 8}{b:BL}(h:b.length≤55):front k (pad b)=front k b:=by unfold front;rw[ZhC (Z5i h)]
theorem ZeP {k:BitVec 8}{b:BL}(h:b.length≤55):frame k (pad b)=frame k b:=by unfold frame;rw[ZdK h]
theorem Z7R (k:BitVec 8):BitVec.ofNat 8 ((k.toNat:Int)).toNat=k:=Ze
theorem Z8w {k:BitVec 8}{b:BL}(c:k≠0#8)(h:b.length≤55):Vq (frame k b)=some (k,pad b):=by
 unfold Vq;rw[Zd3,ZcM h];have d:1≤k.toNat:=by
  rcases VG k.toNat with a|a;·exact absurd (Z0s (by simpa using a)) c
  ·exact a
 have e:=k.isLt;rw[if_pos ⟨Z3T h,by rw[Z3l ⟨Y,Y,by rw[Z5i h];omega⟩,Z7R,ZeP h]⟩]
theorem Z6t {b:BL}{k:BitVec 8}{x:BL}(h:Vq b=some (k,x)):k≠0#8∧x.length=55∧b=frame k x:=by
 unfold Vq at h;split at h
 ·rename_i f;injection h with h;injection h with g e;obtain⟨c,a⟩:=f;rw[g,e]at a;have i:x.length=55:=by rw[←e];simp[c]
  by_cases d:1≤(k.toNat:Int)∧(k.toNat:Int)≤255∧x.length≤55;·rw[Z3l d,Z7R]at a;exact⟨by rintro rfl;simp at d,i,a.symm⟩
  ·rw[Z9H d]at a;rw[←a]at c;simp at c
 ·cases h
theorem Zbz {P:Program}(w:U1)(h:Nat)(t u c e:TypeId)(i:TypeInfo)(k:P.underlying t=some (.slice e))(z:P.underlying u=some .string)(l:P.info? e=some i)(r:i.zero=some (.int .u8 0))(m:i.size=1)(x:i.bytes=1)
  (v:U2) (n:Nat) (a:Z_) (d:w.ownsRow h e 1 v n a) (s:ByteArray) (A:n+s.size≤maxLen) (B:n+s.size≤140737488355328) (C:h≤w):
  ∃f o,(Builtin.append_ #[t,u] c #[v,.string s]).run P w=.ok f o∧o.ownsRow h e 1 f (n+s.size) (a++Lib.strCells s)∧w.grownBy o v.ownBlock∧(f.ownBlock=v.ownBlock∨f.ownBlock=some w):=by
 obtain⟨f,o,p,D,I,_⟩:=Lib.run_append_own_string (P:=P) (w:=w) h t u c e i k z l r m x v n a d s A B C;refine⟨f,o,p,D,I,?_⟩;have y:=Src.ofString (P:=P) w (tx:=u) z s;rw[←m]at y;unfold maxLen at A;have J:(byteCells s).length=s.size:=byteCells_length s;rcases d.2 with ⟨rfl,rfl⟩|⟨g,q,E,rfl,V,F,W,a0,a1,a2⟩
 ·have L:a=[]:=V3 (by simpa using d.1);subst L;by_cases M:s.size=0
  ·rcases D.2 with ⟨rfl,_⟩|⟨g',a3,a4,rfl,a5,a6,_⟩;·exact .inl rfl
   ·exfalso;have N:=Lib.run_append_own_string (P:=P) (w:=w) h t u c e i k z l r m x () 0 [] d s A B C;obtain⟨v2,w2,G,_,_,O⟩:=N;rw[p]at G;injection G with b e2;have:=O.2 ⟨rfl,M⟩;rw[←b]at this;cases this
  ·have:=run_append_grow_src (P:=P) w t u c e i (.int .u8 0) k l r none 0 0 [] (by rfl) (.string s) s.size _ y Y Y (by have:=growslice_fits (old:=0) (need:=0+s.size) (bytes:=i.bytes) Y (by rw[x];omega);omega);rw[p]at this;injection this with b _;exact .inr (by rw[b];rfl)
 ·by_cases Q:n+s.size≤q
  ·have R:∀j,w.cell? (g,j)=E[j]? :=fun j=>cell_of_row w g j E e (0,0) F;have S:∀j,w.frozen? ⟨g,j,none⟩=false:=fun j=>by simp[World.frozen?,F]
   have:=run_append_room_src (P:=P) w t u c e i k l g 0 n q (.string s) s.size _ y Q (fun j H=>by rw[R,m];rw[J]at H;simp only[Option.isSome_iff_exists];exact⟨_,Array.getElem?_eq_getElem Y⟩) (fun j H=>S _);rw[p]at this;injection this with b _;exact .inl (by rw[b];rfl)
  ·have T:∀j u,a[j]? =some u→w.cell? ((⟨g,0,none⟩:U3).add j)=some u:=d.cells (g:=g) rfl;have U:=run_firstCells_some (P:=P) w.drew 1 n ⟨g,0,none⟩ n q a (Zc d.1) (by simpa using T);have:=run_append_grow_src (P:=P) w t u c e i (.int .u8 0) k l r (some ⟨g,0,none⟩) n q a (m ▸ U) (.string s) s.size _ y Y Y (by have:=growslice_fits (old:=q) (need:=n+s.size) (bytes:=i.bytes) Y (by rw[x];omega);omega);rw[p]at this;injection this with b _;exact .inr (by rw[b];rfl)
theorem ZbD {P:Program}(w:U1)(t p:TypeId)(o:Nat)(e:TypeId)(i:TypeInfo)(z:U2)(a q:Nat)(y:P.underlying t=some (.slice e))(C:P.info? e=some i)(F:i.zero=some z)
  (G:i.size=a) (H:i.bytes=q) (I:z.cells.size=a) (J:0<a)
  (v:U2) (n:Nat) (r:Z_) (s:w.ownsRow o e a v n r)
  (B:Nat) (A:X_) (m c:Nat) (d:Z_) (h:Sl w B a A m d) (L:∀u∈d,u.oneCell'=true)
  (W:n+m≤9223372036854775807) (M:(n+m)*q≤140737488355328) (N:o≤w):
  ∃g k,(Builtin.append_ #[t,t] p #[v,(A,m,c)]).run P w=.ok g k∧k.ownsRow o e a g (n+m) (r++d)∧w.grownBy k v.ownBlock∧(g.ownBlock=v.ownBlock∨g.ownBlock=some w):=by
 rcases A with _|D
 ·have O:m=0:=by
   rcases VG m with f|f;·exact f
   ·obtain⟨_,_,l,_⟩:=h.at_ f;cases l
  subst O;have x:d=[]:=V3 (by simpa using h.len);subst x;exact⟨v,w,run_append_nil w t p e i y C s c,by simpa using s,World.grownBy.refl w _,.inl rfl⟩
 ·have Q:∀j u,d[j]? =some u→w.cell? (D.add j)=some u:=by
   intro j u E;rcases VG m with f|f;·subst f;have x:d=[]:=V3 (by simpa using h.len);subst x;simp at E
   ·obtain⟨b,o',l,_,R⟩:=h.at_ f;injection l with l;subst l;rw[addr_add];exact R j u E
  obtain⟨g,k,S,T,U,_,V⟩:=run_append_own_at (P:=P) w o t p e i z a q y C F G H I J v n r s D m c d h.len Q L (by unfold maxLen;omega) M N;exact⟨g,k,S,T,U,V⟩
theorem ZbG {P:Program}{o:Oper}{a:Act}{K:V_}{Q:Exit→V_}(s x:Operand)(t u:TypeId)
  (m:o.op=.call { callee:= .builtin .append,args:= #[s,x],argTypes:= #[t,u]})
  (g:Nat) (e:TypeId) (i:TypeInfo) (p:P.underlying t=some (.slice e)) (q:P.underlying u=some .string) (r:P.info? e=some i) (y:i.zero=some (.int .u8 0)) (z:i.size=1) (A:i.bytes=1)
  (v:U2) (n:Nat) (j:Z_) (B:a.eval s=v) (C:w.ownsRow g e 1 v n j) (b:ByteArray) (D:a.eval x=.string b)
  (N:Nat) (E:n+b.size=N) (k:Z_) (F:j++Lib.strCells b=k) (G:N≤140737488355328) (H:g≤w)
  (h:∀c d f,f.ownsRow g e 1 (c,N,d) N k→w.grownBy f v.ownBlock→((Value.slice c N d).ownBlock=v.ownBlock∨(Value.slice c N d).ownBlock=some w)→K (a.put o.dst (c,N,d)) f):Oper.wp P o a w K Q:=by
 subst E F;obtain⟨M,f,I,l,J,L⟩:=Zbz (P:=P) w g t u o.type e i p q r y z A v n j C b (by unfold maxLen;omega) G H;obtain⟨c,d,rfl,_⟩:=Y8 l;unfold Oper.wp execOp;simp only[m,resolve,invoke,builtin,Sem.run_bind,Sem.run_pure,Result.andThen_ok,List.map_toArray,WQ,Z07,B,D,I];exact h c d f l J L
theorem Z2x {P:Program}{o:Oper}{a:Act}{K:V_}{Q:Exit→V_}(s x:Operand)(t:TypeId)
  (y:o.op=.call { callee:= .builtin .append,args:= #[s,x],argTypes:= #[t,t]})
  (j:Nat) (e:TypeId) (i:TypeInfo) (z:U2) (b l:Nat) (C:P.underlying t=some (.slice e)) (D:P.info? e=some i) (E:i.zero=some z)
  (F:i.size=b) (G:i.bytes=l) (H:z.cells.size=b) (I:0<b)
  (v:U2) (n:Nat) (p:Z_) (J:a.eval s=v) (L:w.ownsRow j e b v n p)
  (B:Nat) (A:X_) (m c:Nat) (k:Z_) (M:a.eval x=.slice A m c) (O:Sl w B b A m k) (R:∀u∈k,u.oneCell'=true)
  (N:Nat) (S:n+m=N) (q:Z_) (T:p++k=q) (U:N≤9223372036854775807) (V:N*l≤140737488355328) (W:j≤w)
  (h:∀d f g,g.ownsRow j e b (d,N,f) N q→w.grownBy g v.ownBlock→((Value.slice d N f).ownBlock=v.ownBlock∨(Value.slice d N f).ownBlock=some w)→K (a.put o.dst (d,N,f)) g):Oper.wp P o a w K Q:=by
 subst S T;obtain⟨v',g,a0,r,h3,h4⟩:=ZbD (P:=P) w t o.type j e i z b l C D E F G H I v n p L B A m c k O R U V W;obtain⟨d,f,rfl,_⟩:=Y8 r;unfold Oper.wp execOp;simp only[y,resolve,invoke,builtin,Sem.run_bind,Sem.run_pure,Result.andThen_ok,List.map_toArray,WQ,Z07,J,M,a0];exact h d f g r h3 h4
theorem Z7s {P:Program}{o:Oper}{a:Act}{K:V_}{Q:Exit→V_}(t:TypeId)(x:Operand)(c:o.op=.box t x)(v:U2)(d:a.eval x=v)
  (h:∀b g,w.heap.size=g→Row b g t v.cells.toList→Below g w b→b.heap.size=g+1→K (a.put o.dst (g,())) b):Oper.wp P o a w K Q:=by
 have e:(Instr.box t v).run P w=.ok (w.heap.size,()) (w.alloc (.cells v.cells t)):=by simp[Instr.box,newVar,newRow]
 unfold Oper.wp execOp;simp only[c,d,Sem.run_bind,e,Result.andThen_ok];exact h _ _ rfl (by simpa using Row.new w t v.cells) ((Z8 _ _).alloc (Z4 _) _) Ze
