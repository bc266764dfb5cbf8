/- PackMath -/
import Derived.Lib.AppendStr
import Derived.Test.YtnknjeipfjdjoaaGreatDoorBScanTells05
set_option maxHeartbeats 8000000
set_option maxRecDepth 20000
set_option linter.unusedSimpArgs false
set_option linter.unusedVariables false
namespace Wells
open Go Go.RowKit
def b8 (z:Int):Byte:=hiB z 0
theorem Zz1v {z:Int} (h:0≤z∧z≤255):bv8 (b8 z)= .int .u8 z:=by
 unfold bv8 b8;rw [Zz0p];congr 1
 simp
 omega
def packE (e:Ent):BL:= [b8 e.name.length]++e.name++highL 3 e.obj++highL 2 e.len++e.tries.map b8
def packH (m:Mani):BL:=highL 4 m.seq++highL 4 m.next++ [b8 m.P.K,b8 m.P.H,b8 m.P.S,b8 m.extra,b8 m.drives.length]
def packL (m:Mani):BL:=packH m++m.drives.map b8++ [b8 m.objs.length]++m.objs.flatMap packE
def pack (m:Mani):BL:=if m.may then packL m else []
theorem Zz9b {l:List Int} {k:Nat} (h:k < l.length):(l.take (k+1)).map b8=(l.take k).map b8++ [b8 (l.getD k 0)]:=by
 rw [ZtS h,List.map_append];simp [h]
theorem Zz81 {es:List Ent} {k:Nat} (h:k < es.length):(es.take (k+1)).flatMap packE=(es.take k).flatMap packE++packE (es.getD k default):=by
 rw [ZtS h,List.flatMap_append];simp [h]
theorem Zzfd {l:List Int} {most:Int} (h:riseB l most=true):∀ i,i < l.length→(i:Int)≤l.getD i 0
 | 0,hi=>by
  have:=Zz1c h hi
  unfold riseStep at this;simp only [Bool.and_eq_true,decide_eq_true_eq] at this;simpa using this.1.1
 | i+1,hi=>by
  have ih:=Zzfd h i (by omega);have:=Zz1c h hi
  unfold riseStep at this;simp only [Bool.and_eq_true,Bool.or_eq_true,decide_eq_true_eq] at this;rcases this.2 with h1 | h1
  ·omega
  ·simp only [Nat.add_sub_cancel] at h1
   omega
theorem Zz9d {l:List Int} {most:Int} (h:riseB l most=true) {i:Nat} (hi:i < l.length):0≤l.getD i 0∧l.getD i 0≤most:=by
 have:=Zz1c h hi
 unfold riseStep at this;simp only [Bool.and_eq_true,decide_eq_true_eq] at this;exact this.1
theorem Zz49 {l:List Int} (h:riseB l 63=true):l.length≤64:=by
 rcases Nat.eq_zero_or_pos l.length with h0 | h0
 ·omega
 ·have h1:=Zzfd h (l.length - 1) (by omega)
  have h2:=Zz9d h (i:=l.length - 1) (by omega);omega
structure MayP (m:Mani):Prop where
 seq:1≤m.seq∧m.seq≤2147483647
 next:0≤m.next∧m.next≤16777216
 P:m.P.may=true
 extra:0≤m.extra∧m.extra≤16
 drives:riseB m.drives 63=true
 olen:m.objs.length≤12
 objs:∀ i,i < m.objs.length→objStep m i=true
theorem may_p {m:Mani} (h:m.may=true):MayP m:=by
 unfold Mani.may preB at h;simp only [Bool.and_eq_true,decide_eq_true_eq] at h;obtain ⟨⟨h1,h2,h3,h4⟩,h5,h6,h7⟩:=h;exact ⟨h1,h2,h3,h4,h5,h6,fun i hi=>Zz1c h7 hi⟩
theorem p_may {m:Mani} (h:MayP m):m.may=true:=by
 unfold Mani.may preB;simp only [Bool.and_eq_true,decide_eq_true_eq];exact ⟨⟨h.seq,h.next,h.P,h.extra⟩,h.drives,h.olen,Zz0y h.objs⟩
structure EntP (m:Mani) (e:Ent):Prop where
 name:nameOk e.name=true
 nlen:1≤e.name.length∧e.name.length≤12
 obj:0≤e.obj∧e.obj≤m.next - 1
 len:0≤e.len∧e.len≤m.P.K*m.P.S*8
 len2:e.len≤3072
 tries:triesOk e.tries=true
 count:(e.tries.length:Int)=countP m.P e.len
 tlen:e.tries.length≤8
theorem ent_p {m:Mani} {e:Ent} (hP:m.P.may=true) (h:entB m e=true):EntP m e:=by
 unfold entB at h;simp only [Bool.and_eq_true,decide_eq_true_eq] at h;obtain ⟨h1,h2,h3,h4,h5⟩:=h;have hs:=Par.size_le (Par.may_ok hP);unfold Par.size at hs;obtain ⟨q,hq⟩:∃ q,m.P.K*m.P.S=q:=⟨_,rfl⟩;have hn:1≤e.name.length∧e.name.length≤12:=by
  unfold nameOk at h1;simp only [Bool.and_eq_true,decide_eq_true_eq] at h1;exact h1.2
 have hl:e.len≤3072:=by rw [hq] at hs h3;omega
 refine ⟨h1,hn,h2,h3,hl,h4,h5,?_⟩;unfold countP at h5;split at h5
 ·rename_i hc
  have:(e.len - 1) / m.P.size < 8:=by
   unfold Par.size;rw [hq] at h3 hs ⊢;exact Int.ediv_lt_of_lt_mul (by omega) (by omega)
  omega
 ·omega
theorem Zzah {m:Mani} (h:MayP m) {i:Nat} (hi:i < m.objs.length):EntP m (m.objs.getD i default):=by
 have:=h.objs i hi
 unfold objStep at this;simp only [Bool.and_eq_true] at this;exact ent_p h.P this.1
theorem Zzdu {m:Mani} {e:Ent} (h:EntP m e):(packE e).length≤26:=by
 unfold packE;simp only [List.length_append,List.length_map,Zz0r,List.length_singleton];have:=h.nlen;have:=h.tlen
 omega
theorem Zzcp {l:List Int} (h:triesOk l=true) {k:Nat} (hk:k < l.length):0≤l.getD k 0∧l.getD k 0≤15:=by
 unfold triesOk at h;rw [List.all_eq_true] at h;have:=h (l.getD k 0) (by rw [ZgD,ZgE hk];exact List.getElem_mem _)
 simpa using this
theorem Zz3b (l:List Byte):Lib.strCells (strB l)=l.map bv8:=by
 unfold Lib.strCells strB;simp only [List.map_map];apply List.map_congr_left
 intro x _;rfl
end Wells
