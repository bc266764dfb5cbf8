/- Frame -/
import Derived.ProofKit
import Derived.OpenShut
import Derived.ShutString
import Derived.ChangeOld
import Derived.Test.YtnknjeipfjdjoaaGreatDoorBScanTells00
set_option maxHeartbeats 8000000
set_option maxRecDepth 20000
set_option linter.unusedSimpArgs false
set_option linter.unusedVariables false
namespace Wells
open Go Go.RowKit Go.ChangeShapes Go.WideShapes Go.ChangeAt
structure IsInts (w:World) (A:Option Addr) (n c:Nat) (l:List Int):Prop where
 sl:Sl w w.heap.size 1 A n (l.map (Value.int .i64))
 le:n≤c
 cap:c≤9223372036854775807
 wf:∀ z∈l,-9223372036854775808≤z∧z≤9223372036854775807
theorem Zz2a {w:World} {x:Addr} {n:Nat} {vs:List Value} (hn:vs.length=n) (h:∀ i,i < n→w.cell? (x.add i)=vs[i]?):Sl w w.heap.size 1 (some x) n vs:=by
 refine ⟨by omega,fun h0=> ?_⟩;obtain ⟨b,off,spot⟩:=x;have hv:vs[0]? =some (vs[0]'(by omega)):=ZgE (by omega);have h0c:=(h 0 h0).trans hv;have hspot:spot=none:=by simpa [Addr.add] using World.cell?_spot h0c
 subst hspot;rw [Zz0m] at h0c;refine ⟨b,off,rfl,World.block_lt_of_cell? w _ h0c,fun j u hu=> ?_⟩;have hj:j < n:=by
  rcases Nat.lt_or_ge j vs.length with hj | hj
  ·omega
  ·rw [List.getElem?_eq_none hj] at hu;cases hu
 have:=h j hj
 rw [Zz0m] at this;rw [this,hu]
theorem Zz4f {z:Int} (h0:0≤z) (h1:z≤255):bv8 (BitVec.ofNat 8 z.toNat)= .int .u8 z:=by
 unfold bv8;rw [BitVec.toNat_ofNat,Nat.mod_eq_of_lt (by omega)];congr 1
 omega
theorem Zz2b {H:Type} {enc:TypeId×Value→H} {P:Program} {w:World} {base:Nat} {sp:Nat→Bool} {held:Bool} {A:Option Addr} {n c t e fuel:Nat} {x:DataW H×List MemPlace}
  (ht:P.underlying t=some (.slice e)) (he:P.underlying e=some (.int .i64)) (hc:P.cellsOf e=1) (hf:DataW.trod enc P w base sp held fuel t [.slice A n c]=some x):∃ l,IsInts w A n c l:=by
 rcases open_ints ht he hc hf with ⟨hcs,_⟩ | ⟨a,len,cap,zs,hcs,_,hl,hm,hz,_,hcell,hwz⟩
 ·simp at hcs
  obtain ⟨rfl,rfl,rfl⟩:=hcs;exact ⟨[],Sl.nil_,by omega,by omega,by simp⟩
 ·simp at hcs
  obtain ⟨rfl,rfl,rfl⟩:=hcs;have hlen:n≤zs.length:=by rw [hz];split <;> omega
  refine ⟨zs.take n,?_,hl,by unfold maxLen at hm;omega,fun z hz=>bounds_i64 (hwz z (List.mem_of_mem_take hz))⟩;refine Zz2a (by simp [hlen]) fun i hi=> ?_
  rw [hcell i (by omega),List.getElem?_map,List.getElem?_take,if_pos hi,ZgE (by omega)];rw [ZgD,ZgE (by omega)];rfl
end Wells
