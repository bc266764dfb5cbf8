/- OpApp -/
import Derived.Deep.AppendSrc
import Derived.Lib.AppendStr
import Derived.Test.YtnknjeipfjdjoaaGreatDoorBScanTells00
set_option maxHeartbeats 8000000
set_option maxRecDepth 20000
set_option linter.unusedSimpArgs false
set_option linter.unusedVariables false
namespace Wells
open Go Go.RowKit
theorem Zz5n {P:Program} (w:World) (base:Nat) (t u ty e:TypeId) (i:TypeInfo) (ht:P.underlying t=some (.slice e)) (hu:P.underlying u=some .string) (hi:P.info? e=some i) (hz:i.zero=some (.int .u8 0)) (hsize:i.size=1) (hby:i.bytes=1)
  (v:Value) (n:Nat) (xs:List Value) (hown:w.ownsRow base e 1 v n xs) (s:ByteArray) (h63:n+s.size≤maxLen) (hbytes:n+s.size≤140737488355328) (hbase:base≤w.heap.size):
  ∃ v' w',(Builtin.append_ #[t,u] ty #[v,.string s]).run P w= .ok v' w'∧w'.ownsRow base e 1 v' (n+s.size) (xs++Lib.strCells s)∧w.grownBy w' v.ownBlock∧(v'.ownBlock=v.ownBlock∨v'.ownBlock=some w.heap.size):=by
 obtain ⟨v',w',hrun,h2,h3,_⟩:=Lib.run_append_own_string (P:=P) (w:=w) base t u ty e i ht hu hi hz hsize hby v n xs hown s h63 hbytes hbase;refine ⟨v',w',hrun,h2,h3,?_⟩;have hs:=Src.ofString (P:=P) w (tx:=u) hu s;rw [← hsize] at hs;unfold maxLen at h63;have hl:(byteCells s).length=s.size:=byteCells_length s;rcases hown.2 with ⟨rfl,rfl⟩ | ⟨g,cap,cur,rfl,hb,hg,hnc,hcm,hcs,htk⟩
 ·have hx0:xs= []:=List.eq_nil_of_length_eq_zero (by simpa using hown.1)
  subst hx0;by_cases hm:s.size=0
  ·rcases h2.2 with ⟨rfl,_⟩ | ⟨g',cap',cur',rfl,hb',hg',_⟩
   ·exact .inl rfl
   ·exfalso
    have h4:=Lib.run_append_own_string (P:=P) (w:=w) base t u ty e i ht hu hi hz hsize hby (.slice none 0 0) 0 [] hown s h63 hbytes hbase;obtain ⟨v2,w2,hr2,_,_,h5⟩:=h4;rw [hrun] at hr2;injection hr2 with e1 e2;have:=h5.2 ⟨rfl,hm⟩
    rw [← e1] at this;cases this
  ·have:=run_append_grow_src (P:=P) w t u ty e i (.int .u8 0) ht hi hz none 0 0 [] (by rfl) (.string s) s.size _ hs (by omega) (by omega) (by
    have:=growslice_fits (old:=0) (need:=0+s.size) (bytes:=i.bytes) (by omega) (by rw [hby];omega)
    omega)
   rw [hrun] at this;injection this with e1 _;exact .inr (by rw [e1];rfl)
 ·by_cases hroom:n+s.size≤cap
  ·have hcell:∀ j,w.cell? ⟨g,j,none⟩=cur[j]? :=fun j=>cell_of_row w g j cur e (0,0) hg
   have hfz:∀ j,w.frozen? ⟨g,j,none⟩=false:=fun j=>by simp [World.frozen?,hg]
   have:=run_append_room_src (P:=P) w t u ty e i ht hi g 0 n cap (.string s) s.size _ hs hroom (fun j hj=>by
    rw [hcell,hsize];rw [hl] at hj;simp only [Option.isSome_iff_exists];exact ⟨_,Array.getElem?_eq_getElem (by omega)⟩) (fun j hj=>hfz _)
   rw [hrun] at this;injection this with e1 _;exact .inl (by rw [e1];rfl)
  ·have holds:∀ j u,xs[j]? =some u→w.cell? ((⟨g,0,none⟩:Addr).add j)=some u:=hown.cells (g:=g) rfl
   have hfo:=run_firstCells_some (P:=P) w.drew 1 n ⟨g,0,none⟩ n cap xs (by have:=hown.1;omega) (by simpa using holds);have:=run_append_grow_src (P:=P) w t u ty e i (.int .u8 0) ht hi hz (some ⟨g,0,none⟩) n cap xs (by rw [hsize];exact hfo) (.string s) s.size _ hs (by omega) (by omega) (by
    have:=growslice_fits (old:=cap) (need:=n+s.size) (bytes:=i.bytes) (by omega) (by rw [hby];omega)
    omega)
   rw [hrun] at this;injection this with e1 _;exact .inr (by rw [e1];rfl)
theorem Zz6d {P:Program} (w:World) (t ty:TypeId) (base:Nat) (e:TypeId) (i:TypeInfo) (z:Value) (size bytes:Nat) (ht:P.underlying t=some (.slice e)) (hi:P.info? e=some i) (hz:i.zero=some z)
  (hsize:i.size=size) (hby:i.bytes=bytes) (hzs:z.cells.size=size) (hsz:0 < size)
  (v:Value) (n:Nat) (xs:List Value) (hown:w.ownsRow base e size v n xs)
  (B:Nat) (A:Option Addr) (m c:Nat) (news:List Value) (hr:Sl w B size A m news) (h1:∀ u∈news,u.oneCell'=true)
  (h63:n+m≤9223372036854775807) (hbytes:(n+m)*bytes≤140737488355328) (hbase:base≤w.heap.size):
  ∃ v' w',(Builtin.append_ #[t,t] ty #[v,.slice A m c]).run P w= .ok v' w'∧w'.ownsRow base e size v' (n+m) (xs++news)∧w.grownBy w' v.ownBlock∧(v'.ownBlock=v.ownBlock∨v'.ownBlock=some w.heap.size):=by
 rcases A with _ | ad
 ·have hm:m=0:=by
   rcases Nat.eq_zero_or_pos m with h0 | h0
   ·exact h0
   ·obtain ⟨_,_,hh,_⟩:=hr.at_ h0
    cases hh
  subst hm;have hn:news= []:=List.eq_nil_of_length_eq_zero (by simpa using hr.len);subst hn;exact ⟨v,w,Zz2l w t ty e i ht hi hown c,by simpa using hown,World.grownBy.refl w _,.inl rfl⟩
 ·have hcells:∀ j u,news[j]? =some u→w.cell? (ad.add j)=some u:=by
   intro j u hu;rcases Nat.eq_zero_or_pos m with h0 | h0
   ·subst h0
    have hn:news= []:=List.eq_nil_of_length_eq_zero (by simpa using hr.len);subst hn;simp at hu
   ·obtain ⟨b,o',hh,_,hc⟩:=hr.at_ h0
    injection hh with hh;subst hh;rw [Zz0m];exact hc j u hu
  obtain ⟨v',w',hrun,h2,h3,_,h5⟩:=run_append_own_at (P:=P) w base t ty e i z size bytes ht hi hz hsize hby hzs hsz v n xs hown ad m c news hr.len hcells h1 (by unfold maxLen;omega) hbytes hbase;exact ⟨v',w',hrun,h2,h3,h5⟩
theorem Zz3c {P:Program} {w:World} {o:Oper} {a:Act} {K:Act→World→Prop} {Q:Exit→Act→World→Prop} (s x:Operand) (t u:TypeId)
  (ho:o.op= .call { callee:= .builtin .append,args:= #[s,x],argTypes:= #[t,u]})
  (base:Nat) (e:TypeId) (i:TypeInfo) (ht:P.underlying t=some (.slice e)) (hu:P.underlying u=some .string) (hi:P.info? e=some i) (hz:i.zero=some (.int .u8 0)) (hsize:i.size=1) (hby:i.bytes=1)
  (v:Value) (n:Nat) (xs:List Value) (hs:a.eval s=v) (hown:w.ownsRow base e 1 v n xs) (b:ByteArray) (hx:a.eval x= .string b)
  (N:Nat) (hN:n+b.size=N) (ys:List Value) (hys:xs++Lib.strCells b=ys) (hbytes:N≤140737488355328) (hbase:base≤w.heap.size)
  (h:∀ A' c' w',w'.ownsRow base e 1 (.slice A' N c') N ys→w.grownBy w' v.ownBlock→((Value.slice A' N c').ownBlock=v.ownBlock∨(Value.slice A' N c').ownBlock=some w.heap.size)→K (a.put o.dst (.slice A' N c')) w'):Oper.wp P o a w K Q:=by
 subst hN hys;obtain ⟨v',w',hrun,h2,h3,h4⟩:=Zz5n (P:=P) w base t u o.type e i ht hu hi hz hsize hby v n xs hown b (by unfold maxLen;omega) hbytes hbase;obtain ⟨A',c',rfl,_⟩:=Zz0h h2;unfold Oper.wp execOp;simp only [ho,resolve,invoke,builtin,Sem.run_bind,Sem.run_pure,Result.andThen_ok,List.map_toArray,List.map_cons,List.map_nil,hs,hx,hrun];exact h A' c' w' h2 h3 h4
theorem Zz0k {P:Program} {w:World} {o:Oper} {a:Act} {K:Act→World→Prop} {Q:Exit→Act→World→Prop} (s x:Operand) (t:TypeId)
  (ho:o.op= .call { callee:= .builtin .append,args:= #[s,x],argTypes:= #[t,t]})
  (base:Nat) (e:TypeId) (i:TypeInfo) (z:Value) (size bytes:Nat) (ht:P.underlying t=some (.slice e)) (hi:P.info? e=some i) (hz:i.zero=some z)
  (hsize:i.size=size) (hby:i.bytes=bytes) (hzs:z.cells.size=size) (hsz:0 < size)
  (v:Value) (n:Nat) (xs:List Value) (hs:a.eval s=v) (hown:w.ownsRow base e size v n xs)
  (B:Nat) (A:Option Addr) (m c:Nat) (news:List Value) (hx:a.eval x= .slice A m c) (hr:Sl w B size A m news) (h1:∀ u∈news,u.oneCell'=true)
  (N:Nat) (hN:n+m=N) (ys:List Value) (hys:xs++news=ys) (h63:N≤9223372036854775807) (hbytes:N*bytes≤140737488355328) (hbase:base≤w.heap.size)
  (h:∀ A' c' w',w'.ownsRow base e size (.slice A' N c') N ys→w.grownBy w' v.ownBlock→((Value.slice A' N c').ownBlock=v.ownBlock∨(Value.slice A' N c').ownBlock=some w.heap.size)→K (a.put o.dst (.slice A' N c')) w'):Oper.wp P o a w K Q:=by
 subst hN hys;obtain ⟨v',w',hrun,h2,h3,h4⟩:=Zz6d (P:=P) w t o.type base e i z size bytes ht hi hz hsize hby hzs hsz v n xs hown B A m c news hr h1 h63 hbytes hbase;obtain ⟨A',c',rfl,_⟩:=Zz0h h2;unfold Oper.wp execOp;simp only [ho,resolve,invoke,builtin,Sem.run_bind,Sem.run_pure,Result.andThen_ok,List.map_toArray,List.map_cons,List.map_nil,hs,hx,hrun];exact h A' c' w' h2 h3 h4
end Wells
