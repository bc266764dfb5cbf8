/- Ali Words Row8 Coe HeldN CrcMath Power Scope2 GfMath -/
import Derived.WalkKit
import Derived.Laws.CopyOwn
import Derived.Deep.Draws
import Derived.Deep.AppendLies
import Derived.Deep.RegionHeld3
import Derived.Test.YtpokipdpjhookaaGreatDoorProg
set_option maxHeartbeats 8000000
set_option maxRecDepth 20000
set_option linter.all false
namespace Go.Proofs
open Go Go.RowKit Tryz
variable {n:Nat} {w v u:World} {p P:Addr} {x y V:Value}
theorem Zw:∀{α:Type _} {xs bs:List α},(xs++bs).length=xs.length+bs.length:= @List.length_append
theorem Zp:∀{α:Type _} {l:List α} {n:Nat} (h:n<l.length),l[n]∈l:= @List.getElem_mem
theorem Zz:∀{α:Type _} {β:Type _} {xs:List α} (f:α→β),(List.map f xs).length=xs.length:= @List.length_map
theorem Y7:∀{α:Type _} {l₁ l₂:List α} {i:Nat},l₁.length≤i→(l₁++l₂)[i]? =l₂[i-l₁.length]? := @List.getElem?_append_right
theorem ZO:∀{α:Type _} {β:Type _} {f:α→β} {l:List α} {i:Nat},(List.map f l)[i]? =Option.map f l[i]? := @List.getElem?_map
theorem ZL:∀(n:Nat),((n:Int)).toNat=n:= @Int.toNat_natCast
theorem ZK:∀{α:Type _} {i:Nat} {l:List α},(List.take i l).length=min i l.length:= @List.length_take
theorem Yp:∀{α:Type _} {l₁ l₂:List α} {i:Nat} (hn:i<l₁.length),(l₁++l₂)[i]? =l₁[i]? := @List.getElem?_append_left
theorem ZZ:∀{α:Type _} {a:α} {l:List α},a∈l→∃(i:Nat) (h:i<l.length),l[i]'h=a:= @List.getElem_of_mem
theorem ZV:∀{α:Type _} {β:Type _} {f:α→β} {l₁ l₂:List α},List.map f (l₁++l₂)=List.map f l₁++List.map f l₂:= @List.map_append
theorem Yn:∀{α:Type _} {a b:α},a∈ [b]↔a=b:= @List.mem_singleton
theorem YH:∀{α:Type _} (xs bs cs:List α),xs++bs++cs=xs++(bs++cs):= @List.append_assoc
theorem XX:∀{α:Type _} {l:List α} {i:Nat} (h:l.length≤i),l[i]? =none:= @List.getElem?_eq_none
theorem Ya:∀{α:Type _} {xs:List α} {i:Nat} {a:α},(xs.set i a).length=xs.length:= @List.length_set
theorem YI:∀{n m k:Nat},n<m→m≤k→n<k:= @Nat.lt_of_lt_of_le
theorem ZT:∀{α:Type _} {β:Type _} {b:β} {f:α→β} {l:List α},b∈List.map f l↔∃a,a∈l∧f a=b:= @List.mem_map
theorem YL:∀{α:Type _} {x:α} {xs:List α} {a:α},(x::xs).set 0 a=a::xs:= @List.set_cons_zero
theorem V3:∀{α:Type _} {l:List α},l.length=0→l=[]:= @List.eq_nil_of_length_eq_zero
theorem Yz:∀{α:Type _} {a b:α},(some a).getD b=a:= @Option.getD_some
theorem Yf:∀(n m:Nat),n<m∨n≥m:= @Nat.lt_or_ge
theorem ZY:∀(n:Nat),0≤n:= @Nat.zero_le
theorem XY:∀{n:Nat} {α:Type _} {a:α} {i:Nat},(List.replicate n a)[i]? =if i<n then some a else none:= @List.getElem?_replicate
theorem XB:∀{α:Type _} (y:α) {a:α} {l:List α},a∈l→a∈y::l:= @List.mem_cons_of_mem
theorem Xz:∀{α:Type _} {x:α} {xs:List α} {i:Nat} {a:α},(x::xs).set (i+1) a=x::xs.set i a:= @List.set_cons_succ
theorem YZ:∀{α:Type _} {a:α} {s t:List α},a∈s++t↔a∈s∨a∈t:= @List.mem_append
theorem Xp:∀(a b:Bool),((a && b)=true)=(a=true∧b=true):= @Bool.and_eq_true
theorem XP:∀{α:Type _} {a:α} {l:List α},a∈a::l:= @List.mem_cons_self
theorem YW:∀{α:Type _} {p:α→Bool} {xs:List α} {x:α},x∈List.filter p xs↔x∈xs∧p x=true:= @List.mem_filter
theorem Wn:∀{α:Type _} {s t:List α} (i:Nat) (x:α) (h:s.length≤i),(s++t).set i x=s++t.set (i-s.length) x:= @List.set_append_right
theorem XQ:∀{α:Type _} {a:α} {xs:List α},(a::xs).length=xs.length+1:= @List.length_cons
theorem Xm:∀{α:Type _} {l:List α},List.take l.length l=l:= @List.take_length
theorem Wx:∀{α:Type _} (p:α→Bool) (l:List α),(List.filter p l).length≤l.length:= @List.length_filter_le
theorem Vt:∀{i n:Nat} (h:i<n),(List.range n)[i]? =some i:= @List.getElem?_range
theorem Wo:∀{α:Type _} (xs:List α),xs++ []=xs:= @List.append_nil
theorem Wq:∀{α:Type _} {p:α→Bool} {l:List α},l.all p=true↔∀(x:α),x∈l→p x=true:= @List.all_eq_true
theorem Vh:∀{α:Type _} (i:Nat) (l:List α),List.take i l++List.drop i l=l:= @List.take_append_drop
theorem VH:∀{α:Type _} {R:α→α→Prop} {l:List α},List.Pairwise R l↔∀(i j:Nat) (_hi:i<l.length) (_hj:j<l.length),i<j→R l[i] l[j]:= @List.pairwise_iff_getElem
theorem Xy:∀{α:Type _} {b:α} {l:List α} {a:α},a∈b::l↔a=b∨a∈l:= @List.mem_cons
theorem VF:∀{α:Type _} {R:α→α→Prop} {a:α} {l:List α},List.Pairwise R (a::l)↔(∀(a':α),a'∈l→R a a')∧List.Pairwise R l:= @List.pairwise_cons
theorem VP:∀{α:Type _} {l₁ l₂:List α} (h:∀(i:Nat),l₁[i]? =l₂[i]?),l₁=l₂:= @List.ext_getElem?
theorem X5:∀{n m:Nat},n<m→n≤m:= @Nat.le_of_lt
theorem VW:∀{α:Type _} {l:List α} {i j:Nat} (h:i<j),(List.take j l)[i]? =l[i]? := @List.getElem?_take_of_lt
theorem Z0s:∀{n:Nat} {x y:BitVec n},x.toNat=y.toNat→x=y:= @BitVec.eq_of_toNat_eq
theorem Z1t:∀{α:Type _} {l₁ l₂:List α} {i:Nat} (h:i≤l₁.length),List.take i (l₁++l₂)=List.take i l₁:= @List.take_append_of_le_length
theorem Wp:∀{n:Nat},List.range n.succ=List.range n++ [n]:= @List.range_succ
theorem Z0q:∀{α:Type _} {i:Nat} {l:List α} (h:i<l.length),List.drop i l=l[i]::List.drop (i+1) l:= @List.drop_eq_getElem_cons
theorem Vb:∀{α:Type _} {β:Type _} {x:α} {xs:List α} {f:α→List β},List.flatMap f (x::xs)=f x++List.flatMap f xs:= @List.flatMap_cons
theorem X9:∀(n m:Nat),n.succ*m=n*m+m:= @Nat.succ_mul
theorem VG:∀(n:Nat),n=0∨n > 0:= @Nat.eq_zero_or_pos
theorem Z08:∀{n m:Nat} (k:Nat) (h:n≤m),n*k≤m*k:= @Nat.mul_le_mul_right
theorem W9:∀(n:Nat),n-n=0:= @Nat.sub_self
theorem Ws:∀{m n:Nat},m∈List.range n↔m<n:= @List.mem_range
theorem Z0K:∀{α:Type _} {l:List α} {i j:Nat},(List.take i l)[j]? =if j<i then l[j]? else none:= @List.getElem?_take
theorem Vr:∀{α:Type _} {β:Type _} {xs ys:List α} {f:α→List β},List.flatMap f (xs++ys)=List.flatMap f xs++List.flatMap f ys:= @List.flatMap_append
theorem WZ:∀{n:Nat},(List.range n).length=n:= @List.length_range
theorem Wy:∀(n:Nat),n*1=n:= @Nat.mul_one
theorem XV:∀(n:Nat),n+0=n:= @Nat.add_zero
theorem Vs:∀{α:Type _} {p:α→Bool} (l₁ l₂:List α),List.filter p (l₁++l₂)=List.filter p l₁++List.filter p l₂:= @List.filter_append
theorem Z2j:(false=true)=False:= @Bool.false_eq_true
theorem Wz:∀(n:Nat),0+n=n:= @Nat.zero_add
theorem Z0w:∀{α:Type _} {n:Nat} {a:α},(List.replicate n a).length=n:= @List.length_replicate
theorem Z05:∀{α:Type _} {a:α}, [a].length=1:= @List.length_singleton
theorem XZ:∀{α:Type _} {β:Type _} {f:α→β} {l:List α} {i:Nat} {a:α},List.map f (l.set i a)=(List.map f l).set i (f a):= @List.map_set
theorem Z0r:∀{α:Type _} {i:Nat} {l:List α},(List.drop i l).length=l.length-i:= @List.length_drop
theorem WQ:∀{α:Type _} {β:Type _} {f:α→β} {a:α} {l:List α},List.map f (a::l)=f a::List.map f l:= @List.map_cons
theorem Z0p:∀{α:Type _} {β:Type _} (a:α) (f:α→β),Option.map f (some a)=some (f a):= @Option.map_some
theorem WS:∀{β:Type _} {γ:Type _} {α:Type _} {g:β→γ} {f:α→β} {l:List α},List.map g (List.map f l)=List.map (g ∘ f) l:= @List.map_map
theorem Z0u:∀{α:Type _} {xs:Array α} {i:Nat},xs.toList[i]? =xs[i]? := @Array.getElem?_toList
theorem Z1w:∀{w:Nat} (x y z:BitVec w),x ^^^ y ^^^ z=x ^^^ (y ^^^ z):= @BitVec.xor_assoc
theorem Z0o:∀{α:Type _} {xs:List α} {i j:Nat},(List.drop i xs)[j]? =xs[i+j]? := @List.getElem?_drop
theorem V4:∀{α:Type _} {i j:Nat} {l:List α},List.drop i (List.drop j l)=List.drop (j+i) l:= @List.drop_drop
theorem Z11:∀{α:Type _} {xs:List α} {i:Nat} (h:xs.length≤i),List.drop i xs=[]:= @List.drop_eq_nil_of_le
theorem Z04:∀{a b:Nat} (h:a≤b),min a b=a:= @Nat.min_eq_left
theorem Z16:∀{α:Type _} {a:α} {xs:List α} (bs:List α),a∈xs→a∈xs++bs:= @List.mem_append_left
theorem VI:∀{n₁ m₁ n₂ m₂:Nat} (h₁:n₁≤n₂) (h₂:m₁≤m₂),n₁*m₁≤n₂*m₂:= @Nat.mul_le_mul
theorem Z13:∀{α:Type _} {b:α} (xs:List α) {bs:List α},b∈bs→b∈xs++bs:= @List.mem_append_right
theorem Z1v:∀{α:Type _} {p:α→Bool} {a:α} {l:List α} (pa:p a=true),List.filter p (a::l)=a::List.filter p l:= @List.filter_cons_of_pos
theorem Z1T:∀{α:Type _} {β:Type _} {a:α} {l:List α} {f:β→α→β} {b:β},List.foldl f b (a::l)=List.foldl f (f b a) l:= @List.foldl_cons
theorem Z4s:∀(m n:Nat),m >>> n=m / 2 ^ n:= @Nat.shiftRight_eq_div_pow
theorem Z4u:∀{n:Nat} (x:BitVec n) (i:Nat),(x >>> i).toNat=x.toNat >>> i:= @BitVec.toNat_ushiftRight
theorem Z1O:∀{α:Type _} {l:List α} {β:Type _} {f g:α→β} (h:∀(a:α),a∈l→f a=g a),List.map f l=List.map g l:= @List.map_congr_left
theorem VU:∀(n m k:Nat),n+m+k=n+(m+k):= @Nat.add_assoc
theorem Z2l:∀(n m:Nat),n+m-n=m:= @Nat.add_sub_cancel_left
theorem Z2Y:∀(x w:Nat),(BitVec.ofNat w x).toNat=x % 2 ^ w:= @BitVec.toNat_ofNat
theorem Z07:∀{α:Type _} {β:Type _} {f:α→β},List.map f []=[]:= @List.map_nil
theorem Z0L:∀{α:Type _} {a:α} {xs bs:List α},a::xs++bs=a::(xs++bs):= @List.cons_append
theorem Z3H:∀{α:Type _} {a:α} {n:Nat},List.replicate (n+1) a=a::List.replicate n a:= @List.replicate_succ
theorem Z2k:∀{α:Type _} {p:α→Bool} {l:List α},List.filter p l=l↔∀(a:α),a∈l→p a=true:= @List.filter_eq_self
theorem Z2g:∀{α:Type _} {xs:Array α} {i:Nat} {f:α→α} {j:Nat},(xs.modify i f)[j]? =if i=j then Option.map f xs[j]? else xs[j]? := @Array.getElem?_modify
theorem Z2h:∀{α:Type _} {p:α→Bool} {a:α} {l:List α} (pa:¬p a=true),List.filter p (a::l)=List.filter p l:= @List.filter_cons_of_neg
theorem Z3I:∀{a:Int} (h:0≤a),∃n:Nat,a=(n:Int):= @Int.eq_ofNat_of_zero_le
theorem Z5F:∀{α:Type _} {i:Nat} {b:α} {xs:Array α},xs[i]? =some b↔∃h,xs[i]=b:= @Array.getElem?_eq_some_iff
theorem Z4p:∀{w:Nat} {x:BitVec w},x ^^^ 0#w=x:= @BitVec.xor_zero
theorem Z1U:∀{α:Type _} {xs:Array α},xs.toList.length=xs.size:= @Array.length_toList
theorem Vv:∀(x:Nat) {y:Nat} (hy:0<y),x % y<y:= @Nat.mod_lt
theorem Z2m:∀{α:Type _} {β:Type _} {f:β→α→β} {b:β} {l l':List α},List.foldl f b (l++l')=List.foldl f (List.foldl f b l) l':= @List.foldl_append
theorem Z10:∀{α:Type _} (xs:List α), []++xs=xs:= @List.nil_append
theorem Z1P:∀{n:Nat},(Array.range n).toList=List.range n:= @Array.toList_range
theorem Z1u:∀{α:Type _} {p:α→Bool} {l:List α},l.any p=true↔∃x,x∈l∧p x=true:= @List.any_eq_true
theorem Z1M:∀{α:Type _} {β:Type _} {f:α→β} {l:List α} {i:Nat},List.map f (List.take i l)=List.take i (List.map f l):= @List.map_take
theorem Z2T:∀{α:Type _} {xs:List α},xs.toArray.toList=xs:= @List.toList_toArray
theorem Z4m:∀{α:Type _} {i:Nat} {a:α} {l:List α},l[i]? =some a↔∃h,l[i]=a:= @List.getElem?_eq_some_iff
theorem Za_:∀{n:Nat} (i:Nat) (x:BitVec n),(BitVec.setWidth i x).toNat=x.toNat % 2 ^ i:= @BitVec.toNat_setWidth
theorem Z2R:∀{a b:Nat} (h:a<b),a % b=a:= @Nat.mod_eq_of_lt
theorem Z1L:∀(n:Nat),n<n.succ:= @Nat.lt_succ_self
theorem Z2W:∀{α:Type _} {β:Type _} {f:Nat→α→β} {l:List α} {i:Nat},(List.mapIdx f l)[i]? =Option.map (f i) l[i]? := @List.getElem?_mapIdx
theorem Z2X:∀{α:Type _} {a:α} {l:List α},a∈l↔∃(i:Nat) (h:i<l.length),l[i]'h=a:= @List.mem_iff_getElem
theorem Z3F:∀{α:Type _} {i:Nat} {a:α} {l:List α} (h:a∈List.take i l),a∈l:= @List.mem_of_mem_take
theorem Z2P:∀{α:Type _} {R:α→α→Prop} {l₁ l₂:List α},List.Pairwise R (l₁++l₂)↔List.Pairwise R l₁∧List.Pairwise R l₂∧∀(a:α),a∈l₁→∀(b:α),b∈l₂→R a b:= @List.pairwise_append
theorem Z3E:∀(n m:Nat),((n*m:Nat):Int)=(n:Int)*(m:Int):= @Int.natCast_mul
theorem Z1K:∀(n k:Nat),n / k≤n:= @Nat.div_le_self
theorem Z2U:∀{α:Type _} {β:Type _} {l:List α} {a:α} {f:α→β} (h:a∈l),f a∈List.map f l:= @List.mem_map_of_mem
theorem Z3D:∀{α:Type _} {i j:Nat} {l:List α},List.take i (List.take j l)=List.take (min i j) l:= @List.take_take
theorem Z8:∀(B:Nat) (w:World),Below B w w:= @Below.refl
theorem Yi:∀(w:World) (base:Nat) (e:TypeId) (size:Nat),w.ownsRow base e size (Value.slice none 0 0) 0 []:= @World.ownsRow_nil
theorem YC:∀(w:World) (a:Addr) {u:Value} (h:w.cell? a=some u),a.block<w.heap.size:= @World.block_lt_of_cell?
theorem Xe:∀(n:Int),IntKind.i64.wrap n=(n+9223372036854775808) % 18446744073709551616-9223372036854775808:= @IntKind.wrap_i64
section
theorem Z {p:Prop}(h:p):Hid p:=h
abbrev Byte:=BitVec 8
abbrev Z0:=List (List Byte)
abbrev Z_:=List Value
abbrev Y_:=List Byte
abbrev X_:=Option Addr
abbrev W_:=List Int
abbrev V_:=Act→World→Prop
abbrev U0:=Nat→Prop
abbrev U1:=World
abbrev U2:=Value
abbrev U3:=Addr
def Za (b:Byte):U2:= .int .u8 (b.toNat:Int)
theorem addr_add (b o k:Nat):(⟨b,o,none⟩:U3).add k=⟨b,o+k,none⟩:=by
 unfold Addr.add;split;·rename_i h;subst h;rfl
 ·rfl
/-- a slice of n elements, of 'size' cells each, has the cells xs, in a block below B -/
structure Sl (w:U1) (B size:Nat) (A:X_) (n:Nat) (xs:Z_):Prop where
 len:xs.length=n*size
 at_:0<n→∃b o,A=some ⟨b,o,none⟩∧b<B∧∀j u,xs[j]? =some u→w.cell? ⟨b,o+j,none⟩=some u
section
variable {w w':U1} {B B' size n:Nat} {A:X_} {xs:Z_}
theorem Sl.nil_:Sl w B size A 0 []:=⟨by simp,fun h=>absurd h (by omega)⟩
theorem Sl.keep (h:Sl w B size A n xs)(hk:∀b o,b<B→w'.cell? ⟨b,o,none⟩=w.cell? ⟨b,o,none⟩):Sl w' B size A n xs:=
 ⟨h.len,fun hn=>by obtain⟨b,o,e,hb,hc⟩:=h.at_ hn;exact⟨b,o,e,hb,fun j u hu=>(hk _ _ hb).trans (hc j u hu)⟩⟩
theorem Sl.mono (h:Sl w B size A n xs)(hB:B≤B'):Sl w B' size A n xs:=
 ⟨h.len,fun hn=>by obtain⟨b,o,e,hb,hc⟩:=h.at_ hn;exact⟨b,o,e,by omega,hc⟩⟩
theorem Sl.below (h:Sl w B size A n xs)(hb:Below B w w'):Sl w' B size A n xs:=h.keep fun b o hp=>hb.cell (p:=⟨b,o,none⟩) hp
theorem Sl.drew (h:Sl w B size A n xs):Sl w.drew B size A n xs:=h.keep fun _ _ _=>rfl
theorem Sl.drewN (h:Sl w B size A n xs)(d:Nat):Sl (w.drewN d) B size A n xs:=h.keep fun _ _ _=>rfl
theorem Sl.get (h:Sl w B 1 A n xs){k:Nat}(hk:k<n){u:U2}(hu:xs[k]? =some u):∃b o,A=some ⟨b,o,none⟩∧b<B∧w.cell? ⟨b,o+k,none⟩=some u:=by obtain⟨b,o,e,hb,hc⟩:=h.at_ (by omega);exact⟨b,o,e,hb,hc k u hu⟩
/-- 's[k:m]' -/
theorem Sl.cut (h:Sl w B size A n xs){k m c:Nat}(hkm:k≤m)(hm:m≤n)(hc:m≤c):
  Sl w B size (if c=k then A else A.map (·.add (k*size))) (m-k) ((xs.drop (k*size)).take ((m-k)*size)):=by
 have hl:=h.len;have h1:(m-k)*size=m*size-k*size:=Nat.sub_mul _ _ _;have h2:m*size≤n*size:=Nat.mul_le_mul_right _ hm;refine⟨by rw[List.length_take,List.length_drop];omega,fun hn=>?_⟩;obtain⟨b,o,rfl,hb,hcell⟩:=h.at_ (by omega);rw[if_neg (by omega)];refine⟨b,o+k*size,by simp[addr_add],hb,fun j u hu=>?_⟩;rw[List.getElem?_take]at hu;split at hu;·rw[List.getElem?_drop]at hu;have:=hcell _ u hu;rwa [show o+k*size+j=o+(k*size+j) by omega]
 ·cases hu
theorem Sl.take (h:Sl w B size A n xs){m:Nat}(hm:m≤n):Sl w B size A m (xs.take (m*size)):=by
 have hl:=h.len;have h2:m*size≤n*size:=Nat.mul_le_mul_right _ hm;refine⟨by rw[List.length_take];omega,fun hn=>?_⟩;obtain⟨b,o,rfl,hb,hcell⟩:=h.at_ (by omega);refine⟨b,o,rfl,hb,fun j u hu=>?_⟩;rw[List.getElem?_take]at hu;split at hu;·exact hcell _ u hu
 ·cases hu
end
/-- block g is just the cells cs of the element type t, none frozen -/
def Row (w:U1) (g:Nat) (t:TypeId) (cs:Z_):Prop:=w.heap[g]? =some (.cells cs.toArray t (0,0))
section
variable {w w':U1} {g:Nat} {t:TypeId} {cs:Z_}
theorem Row.lt (h:Row w g t cs):g<w.heap.size:=by
 rcases Nat.lt_or_ge g w.heap.size with hlt|hge;·exact hlt
 ·unfold Row at h;rw[Array.getElem?_eq_none hge]at h;cases h
theorem Row.cell (h:Row w g t cs)(i:Nat):w.cell? ⟨g,i,none⟩=cs[i]? :=by have:=cell_of_row w g i cs.toArray t (0,0) h;simpa using this
theorem Row.frozen (h:Row w g t cs)(i:Nat):w.frozen? ⟨g,i,none⟩=false:=by unfold Row at h;simp[World.frozen?,h]
theorem Row.drew (h:Row w g t cs):Row w.drew g t cs:=h
theorem Row.drewN (h:Row w g t cs)(n:Nat):Row (w.drewN n) g t cs:=h
theorem Row.alloc (h:Row w g t cs)(o:Obj):Row (w.alloc o) g t cs:=(Below.heap_alloc w o g h.lt).trans h
theorem Row.new (w:U1)(t:TypeId)(cs:Array U2):Row (w.alloc (.cells cs t)) w.heap.size t cs.toList:=by unfold Row;exact heap_alloc_new w _
theorem Row.set (h:Row w g t cs)(i:Nat)(u:U2):Row (w.setCell ⟨g,i,none⟩ u) g t (cs.set i u):=by unfold Row at h ⊢;simp[World.setCell,Array.getElem?_modify,h]
theorem Row.far (h:Row w g t cs){p:U3}(hp:g≠p.block)(u:U2):Row (w.setCell p u) g t cs:=(Below.heap_setCell w p u g hp).trans h
theorem Row.below {B:Nat}(h:Row w g t cs)(hb:Below B w w')(hg:g<B):Row w' g t cs:=(hb.block g hg).trans h
theorem Row.grown {row:Option Nat}(h:Row w g t cs)(hb:w.grownBy w' row)(hg:some g≠row):Row w' g t cs:=(hb.block g h.lt hg).trans h
theorem Row.to {cs':Z_}(h:Row w g t cs)(e:cs=cs'):Row w g t cs':=e ▸ h
theorem Row.sl (h:Row w g t cs){B m:Nat}(hB:g<B)(hm:m≤cs.length):Sl w B 1 (some ⟨g,0,none⟩) m (cs.take m):=
 ⟨by simp[hm],fun _=>⟨g,0,rfl,hB,fun j u hu=>by
  rw[Nat.zero_add,h.cell];rw[List.getElem?_take]at hu;split at hu;·exact hu
  ·cases hu⟩⟩
theorem Row.own {base size n cap:Nat}(h:Row w g t cs)(hb:base≤g)(hn:n≤cap)(hc:cap≤maxLen)(hs:cs.length=cap*size):
  w.ownsRow base t size (.slice (some ⟨g,0,none⟩) n cap) n (cs.take (n*size)):=by
 refine⟨?_,.inr ⟨g,cap,cs.toArray,rfl,hb,h,hn,hc,by simpa using hs,by simp⟩⟩;rw[List.length_take,hs];have:=Nat.mul_le_mul_right size hn;omega
end
theorem Sl.fresh (w:U1)(cs:Z_)(t:TypeId)(fr:Nat×Nat)(m:Nat)(hm:cs.length=m):Sl (w.alloc (.cells cs.toArray t fr)) (w.heap.size+1) 1 (some ⟨w.heap.size,0,none⟩) m cs:=
 ⟨by omega,fun _=>⟨_,0,rfl,by omega,fun j u hu=>by rw[Nat.zero_add,cell_of_row _ _ j cs.toArray t fr (heap_alloc_new w _)];simpa using hu⟩⟩
theorem Zd1 {w w':U1}{g B:Nat}{w0:U1}(h:Below B w0 w)(hg:w.grownBy w' (some g))(hB:B≤g)(hs:B≤w.heap.size):Below B w0 w':=
 h.grown hg hs (fun k hk=>by injection hk with hk;omega)
theorem YP {k:IntKind}{a b:Int}(h:a=b):Ending.returned (.int k a)=.returned (.int k b):=by rw[h]
theorem Xu {a b:Bool}(h:a=b):Ending.returned (.bool a)=.returned (.bool b):=by rw[h]
/-- 'make([]T, l, c)': elements of one cell; the world behind it is a variable -/
theorem Z0E {P:Program}(w:U1){ops:Array Oper}{rest:List Oper}{o:Oper}{a:Act}{Q:Exit→V_}
  (hg:o.guard=none) (l c:Operand) (t:TypeId) (hop:o.op=Op.makeSlice t l c)
  (e:TypeId) (i:TypeInfo) (z:U2) (bytes:Nat) (h1:P.underlying t=some (.slice e)) (h2:P.info? e=some i) (h3:i.zero=some z) (h4:i.size=1) (h5:i.bytes=bytes) (hz:z.cells= #[z])
  (kl kc:IntKind) (L C:Int) (n m:Nat) (hl:a.eval l=.int kl L) (hc:a.eval c=.int kc C) (hL:L=(n:Int)) (hC:C=(m:Int)) (hnm:n≤m) (b2:bytes*m≤281474976710656) (b3:m≤9223372036854775807)
  (hK:∀w',Row w' w.heap.size e (List.replicate m z)→Below w.heap.size w w'→w'.heap.size=w.heap.size+1→wpList P ops Q rest (a.put o.dst (.slice (some ⟨w.heap.size,0,none⟩) n m)) w'):
  wpList P ops Q (o::rest) a w:=by
 refine wpList_plain hg fun K hK'=>?_;subst h5 hL hC;have hbb:(i.bytes:Int)*(m:Int)≤281474976710656:=by
  have h:((i.bytes*m:Nat):Int)≤281474976710656:=by omega
  rwa [Int.natCast_mul]at h
 have hrun:=run_make (P:=P) w t e i z h1 h2 h3 kl kc n m (by omega) (by omega) hbb (by omega);simp only[Int.toNat_natCast,h4,Nat.mul_one,hz]at hrun;unfold Oper.wp;simp[execOp,hop,hl,hc,hrun,Result.andThen];refine hK' _ _ (hK _ ?_ ((Below.refl _ _).alloc (Nat.le_refl _) _) (by simp));have:=Row.new w e (madeCells #[z] m);rwa [toList_madeCells_one]at this
/-- 'copy(dst, src)' into a row that is known whole -/
theorem Z6E {P:Program}{w:U1}{ops:Array Oper}{rest:List Oper}{o:Oper}{a:Act}{Q:Exit→V_}(hgd:o.guard=none)(d s:Operand)(dT sT:TypeId)
  (ho:o.op=.call { callee:= .builtin .copy,args:= #[d,s],argTypes:= #[dT,sT]}) (elem:TypeId) (hu:P.underlying dT=some (.slice elem)) (hsz:(P.info? elem).map (·.size)=some 1)
  (dp A:X_) (dLen dCap n sCap:Nat) (hd:a.eval d=.slice dp dLen dCap) (hs:a.eval s=.slice A n sCap)
  (g off:Nat) (cur:Z_) (t:TypeId) (hg:Row w g t cur) (B:Nat) (xs:Z_) (hx:Sl w B 1 A n xs)
  (hpos:0<min n dLen→dp=some ⟨g,off,none⟩) (hfit:off+min n dLen≤cur.length) (h1:∀v∈xs,v.oneCell'=true)
  (h:∀w',Row w' g t (splice cur off (xs.take dLen))→w.grownBy w' (some g)→wpList P ops Q rest (a.put o.dst (goInt ((min n dLen:Nat):Int))) w'):
  wpList P ops Q (o::rest) a w:=by
 have hl:(xs.take dLen).length=min n dLen:=by rw[List.length_take,hx.len];omega
 by_cases h0:min n dLen=0;·refine wpList_copy_nothing hgd d s dT sT ho elem hu hsz dp A dLen dCap n sCap hd hs (by show min n dLen=0;exact h0) ?_;have he:xs.take dLen=[]:=List.eq_nil_of_length_eq_zero (by rw[hl,h0]);rw[he]at h;have:=h w (by simpa[splice]using hg) (World.grownBy.refl w _);rwa [h0]at this
 ·have hxs:=hx.at_ (by omega);obtain⟨b,o',rfl,_,hc⟩:=hxs;have hdp:=hpos (by omega);subst hdp;refine wpList_copy_own hgd d s dT sT ho elem hu hsz g off dLen dCap ⟨b,o',none⟩ n sCap hd hs cur.toArray t hg (xs.take dLen) (by rw[hl]) ?_ (by rw[hl];exact hfit) (fun v hv=>h1 v (List.mem_of_mem_take hv)) ?_
  ·intro j v hv;rw[addr_add];rw[List.getElem?_take]at hv;split at hv;·exact hc j v hv
   ·cases hv
  ·rw[hl];refine h _ ?_ ?_;·have:=setRow_heap w g cur.toArray (splice cur off (xs.take dLen)).toArray t _ hg;simpa[splice,hl,Row]using this
   ·exact⟨rfl,rfl,rfl,by simp[World.setRow],fun k hk hne=>setRow_other w g k _ (fun e=>hne (by rw[e]))⟩
theorem Y8 {w:U1}{base:Nat}{e:TypeId}{size n:Nat}{v:U2}{xs:Z_}(h:w.ownsRow base e size v n xs):
  ∃A c,v=.slice A n c∧n≤c∧c≤9223372036854775807∧Sl w w.heap.size size A n xs:=by
 have hl:=h.1;rcases h.2 with ⟨rfl,rfl⟩|⟨g,cap,cur,rfl,hb,hg,hn,hc,hs,ht⟩;·have:xs=[]:=List.eq_nil_of_length_eq_zero (by simpa using hl);subst this;exact⟨none,0,rfl,Nat.le_refl _,by omega,Sl.nil_⟩
 ·refine⟨_,cap,rfl,hn,by unfold maxLen at hc;omega,hl,fun h0=>⟨g,0,rfl,(Array.getElem?_eq_some_iff.1 hg).1,fun j u hu=>?_⟩⟩;rw[Nat.zero_add,cell_of_row w g j cur e (0,0) hg];rw[←ht,List.getElem?_take]at hu;split at hu;·simpa using hu
  ·cases hu
theorem Sl.own {w:U1}{base:Nat}{e:TypeId}{size n c:Nat}{A:X_}{xs:Z_}(h:w.ownsRow base e size (.slice A n c) n xs):Sl w w.heap.size size A n xs:=by obtain⟨A',c',he,_,_,hs⟩:=Y8 h;injection he with e1 _ e2;subst e1;exact hs
theorem Z1k {w:U1}{base:Nat}{e:TypeId}{size n c:Nat}{A:X_}{xs:Z_}(h:w.ownsRow base e size (.slice A n c) n xs):n≤c∧c≤9223372036854775807:=by obtain⟨A',c',he,h1,h2,_⟩:=Y8 h;injection he with e1 _ e2;subst e2;exact⟨h1,h2⟩
theorem Z2E {w:U1}{base:Nat}{e:TypeId}{size n c:Nat}{A:X_}{xs:Z_}(h:w.ownsRow base e size (.slice A n c) n xs):
  (A=none∧n=0∧c=0)∨∃g,A=some ⟨g,0,none⟩∧base≤g∧g<w.heap.size:=by
 rcases h.2 with ⟨hv,h0⟩|⟨g,cap,cur,hv,hb,hg,_⟩;·injection hv with e1 e2 e3;exact .inl ⟨e1,e2,e3⟩
 ·injection hv with e1 e2 e3;exact .inr ⟨g,e1,hb,(Array.getElem?_eq_some_iff.1 hg).1⟩
theorem ZC {w:U1}{base:Nat}{e:TypeId}{size n:Nat}{v:U2}{xs:Z_}(h:w.ownsRow base e size v n xs):∀k,v.ownBlock=some k→base≤k∧k<w.heap.size:=h.lt
/-- below the base nothing turns while an owned row grows -/
theorem Y9 {B base:Nat}{w0 w w':U1}{e:TypeId}{size n:Nat}{v:U2}{xs:Z_}(hb:Below B w0 w)(h:w.ownsRow base e size v n xs)(hg:w.grownBy w' v.ownBlock)(hB:B≤base)(hs:B≤w.heap.size):Below B w0 w':=
 hb.grown hg hs fun k hk=>Nat.le_trans hB (h.lt k hk).1
theorem run_append_nil {P:Program}(w:U1){base:Nat}(t ty e:TypeId)(i:TypeInfo){size:Nat}(ht:P.underlying t=some (.slice e))(hi:P.info? e=some i)
  {v:U2} {n:Nat} {xs:Z_} (hown:w.ownsRow base e size v n xs) (c:Nat):(Builtin.append_ #[t,t] ty #[v,.slice none 0 c]).run P w=.ok v w:=by
 rcases hown.2 with ⟨rfl,rfl⟩|⟨g,cap,cur,rfl,_,_,hnc,_⟩;·simp[Builtin.append_,run_underlying ht,Go.sizeOf,typeInfo,hi,Builtin.lenOf,Builtin.firstCells]
 ·simp[Builtin.append_,run_underlying ht,Go.sizeOf,typeInfo,hi,Builtin.lenOf,Builtin.firstCells,hnc,storeCells]
/-- 'out = append(out, xs...)': out nil or the call's own; the source a slice that reads, nil or not -/
theorem Y5 {P:Program}{w:U1}{ops:Array Oper}{rest:List Oper}{o:Oper}{a:Act}{Q:Exit→V_}(hgd:o.guard=none)(s x:Operand)(t:TypeId)
  (ho:o.op=.call { callee:= .builtin .append,args:= #[s,x],argTypes:= #[t,t]})
  (base:Nat) (e:TypeId) (i:TypeInfo) (z:U2) (size bytes:Nat) (ht:P.underlying t=some (.slice e)) (hi:P.info? e=some i) (hz:i.zero=some z)
  (hsize:i.size=size) (hby:i.bytes=bytes) (hzs:z.cells.size=size) (hsz:0<size)
  (v:U2) (n:Nat) (xs:Z_) (hs:a.eval s=v) (hown:w.ownsRow base e size v n xs)
  (B:Nat) (A:X_) (m c:Nat) (news:Z_) (hx:a.eval x=.slice A m c) (hr:Sl w B size A m news) (h1:∀u∈news,u.oneCell'=true)
  (N:Nat) (hN:n+m=N) (ys:Z_) (hys:xs++news=ys) (h63:N≤9223372036854775807) (hbytes:N*bytes≤140737488355328) (hbase:base≤w.heap.size)
  (h:∀A' c' w',w'.ownsRow base e size (.slice A' N c') N ys→w.grownBy w' v.ownBlock→((Value.slice A' N c').ownBlock=v.ownBlock∨(Value.slice A' N c').ownBlock=some w.heap.size)→
   wpList P ops Q rest (a.put o.dst (.slice A' N c')) w'):wpList P ops Q (o::rest) a w:=by
 subst hN hys;have key:∃v' w',(Builtin.append_ #[t,t] o.type #[v,.slice A m c]).run P w=.ok v' w'∧w'.ownsRow base e size v' (n+m) (xs++news)∧w.grownBy w' v.ownBlock∧(v'.ownBlock=v.ownBlock∨v'.ownBlock=some w.heap.size):=by
  rcases A with _|ad
  ·have hm:m=0:=by
    rcases Nat.eq_zero_or_pos m with h0|h0;·exact h0
    ·obtain⟨_,_,hh,_⟩:=hr.at_ h0;cases hh
   subst hm;have hn:news=[]:=List.eq_nil_of_length_eq_zero (by simpa using hr.len);subst hn;exact⟨v,w,run_append_nil w t o.type e i ht hi hown c,by simpa using hown,World.grownBy.refl w _,.inl rfl⟩
  ·have hcells:∀j u,news[j]? =some u→w.cell? (ad.add j)=some u:=by
    intro j u hu;rcases Nat.eq_zero_or_pos m with h0|h0;·subst h0;have hn:news=[]:=List.eq_nil_of_length_eq_zero (by simpa using hr.len);subst hn;simp at hu
    ·obtain⟨b,o',hh,_,hc⟩:=hr.at_ h0;injection hh with hh;subst hh;rw[addr_add];exact hc j u hu
   obtain⟨v',w',hrun,h2,h3,_,h5⟩:=run_append_own_at (P:=P) w base t o.type e i z size bytes ht hi hz hsize hby hzs hsz v n xs hown ad m c news hr.len hcells h1 (by unfold maxLen;omega) hbytes hbase;exact⟨v',w',hrun,h2,h3,h5⟩
 obtain⟨v',w',hrun,h2,h3,h4⟩:=key;obtain⟨A',c',rfl,_⟩:=Y8 h2;refine wpList_plain hgd fun K hK=>?_;unfold Oper.wp execOp;simp only[ho,resolve,invoke,builtin,Sem.run_bind,Sem.run_pure,Result.andThen_ok,List.map_toArray,List.map_cons,List.map_nil,hs,hx,hrun];exact hK _ _ (h A' c' w' h2 h3 h4)
end
theorem Row.c8 {w:U1}{g:Nat}{t:TypeId}{a0 a1 a2 a3 a4 a5 a6 a7:U2}(h:Row w g t [a0,a1,a2,a3,a4,a5,a6,a7]):
  w.cell? ⟨g,0,none⟩=some a0∧w.cell? ⟨g,1,none⟩=some a1∧w.cell? ⟨g,2,none⟩=some a2∧w.cell? ⟨g,3,none⟩=some a3∧w.cell? ⟨g,4,none⟩=some a4∧w.cell? ⟨g,5,none⟩=some a5∧w.cell? ⟨g,6,none⟩=some a6∧w.cell? ⟨g,7,none⟩=some a7:=
 ⟨h.cell 0,h.cell 1,h.cell 2,h.cell 3,h.cell 4,h.cell 5,h.cell 6,h.cell 7⟩
theorem Z4 (n:Nat):n≤n:=Nat.le_refl n
theorem Zj {a b c:Nat}(h:a≤b)(h':b≤c):a≤c:=Nat.le_trans h h'
theorem Z6 {α:Type _}{l:List α}{i:Nat}{a:α}:l.getD i a=l[i]?.getD a:=List.getD_eq_getElem?_getD
theorem Z7 {α:Type _}{l:List α}{i:Nat}(h:i<l.length):l[i]? =some l[i]:=List.getElem?_eq_getElem h
theorem Xd {α:Type _}{a:α}{i:Nat}{l:List α}:(a::l)[i+1]? =l[i]? :=List.getElem?_cons_succ
theorem ZE {α:Type _}{a:α}{l:List α}:(a::l)[0]? =some a:=List.getElem?_cons_zero
theorem ZR {α:Type _}{i:Nat}{l:List α}(h:i<l.length):List.take (i+1) l=List.take i l++ [l[i]]:=List.take_succ_eq_append_getElem h
theorem ZP {α:Type _}{l:List α}{i:Nat}(h:l.length≤i):List.take i l=l:=List.take_of_length_le h
instance:Coe Int Value:=⟨.int .i64⟩
instance:Coe Nat Value:=⟨fun n=>.int .i64 n⟩
instance:Coe Unit Value:=⟨fun _=>.slice none 0 0⟩
instance:CoeDep Type Nat Value:=⟨.int .i64 0⟩
instance (A:Option Addr) (n c:Nat):CoeDep (Option Addr×Nat×Nat) (A,n,c) Value:=⟨.slice A n c⟩
instance (A n c:Nat):CoeDep (Nat×Nat×Nat) (A,n,c) Value:=⟨.slice (some ⟨A,0,none⟩) n c⟩
instance (A:Nat):CoeDep (Nat×Unit) (A,()) Value:=⟨.pointer (some ⟨A,0,none⟩)⟩
instance:Coe Nat Addr:=⟨fun n=>⟨n,0,none⟩⟩
instance (n i:Nat):CoeDep (Nat×Nat) (n,i) Addr:=⟨⟨n,i,none⟩⟩
instance:Coe World Nat:=⟨fun w=>w.heap.size⟩
theorem Wt {w:World}{g:Nat}{t:TypeId}{cs:List Value}(h:Row w g t cs):w.frozen? ⟨g,0,none⟩=false∧w.frozen? ⟨g,1,none⟩=false∧w.frozen? ⟨g,2,none⟩=false∧w.frozen? ⟨g,3,none⟩=false∧w.frozen? ⟨g,4,none⟩=false∧w.frozen? ⟨g,5,none⟩=false∧w.frozen? ⟨g,6,none⟩=false∧w.frozen? ⟨g,7,none⟩=false:=⟨h.frozen 0,h.frozen 1,h.frozen 2,h.frozen 3,h.frozen 4,h.frozen 5,h.frozen 6,h.frozen 7⟩
theorem Zkf {w:World}{g:Nat}{t:TypeId}{cs:List Value}(h:Row w g t cs):w.frozen? ⟨g,0,none⟩=false∧w.frozen? ⟨g,1,none⟩=false∧w.frozen? ⟨g,2,none⟩=false∧w.frozen? ⟨g,3,none⟩=false∧w.frozen? ⟨g,4,none⟩=false:=⟨h.frozen 0,h.frozen 1,h.frozen 2,h.frozen 3,h.frozen 4⟩
theorem Zk5 {w:World}{g:Nat}{t:TypeId}{cs:List Value}(h:Row w g t cs):w.frozen? ⟨g,0,none⟩=false∧w.frozen? ⟨g,1,none⟩=false∧w.frozen? ⟨g,2,none⟩=false∧w.frozen? ⟨g,3,none⟩=false:=⟨h.frozen 0,h.frozen 1,h.frozen 2,h.frozen 3⟩
theorem Zbt {w:World}{g:Nat}{t:TypeId}{cs:List Value}(h:Row w g t cs):w.frozen? ⟨g,0,none⟩=false∧w.frozen? ⟨g,1,none⟩=false∧w.frozen? ⟨g,2,none⟩=false:=⟨h.frozen 0,h.frozen 1,h.frozen 2⟩
theorem Z9 {w:World}{g:Nat}{t:TypeId}{cs:List Value}{v:Value}(h:Row w g t cs)(i:Nat)(hi:cs[i]? =some v:=by rfl):w.cell? ⟨g,i,none⟩=some v:=(h.cell i).trans hi
theorem Y {p:Prop}(h:p:=by omega):p:=h
theorem Zc {p q:Prop}(x:p)(h:p→q:=by intro h;omega):q:=h x
theorem YU {p p' q:Prop}(x:p)(y:p')(h:p→p'→q:=by intro h h';omega):q:=h x y
theorem Z5 {p:Prop}(h:p:=by decide):p:=h
theorem Zi {p:Prop}(h:p:=by kernel_rfl):p:=h
theorem Ze {p:Prop}(h:p:=by simp):p:=h
theorem Zx {p:Prop}(h:p:=by simp;omega):p:=h
theorem Zg {p:Prop}(h:p:=by go_num):p:=h
theorem Zh {p:Prop}(h:p:=by simp[intOf];omega):p:=h
theorem Xk {P:Program}{ops:Array Oper}{Q:Exit→Act→World→Prop}(d:Nat){o:Op}{t:TypeId}{p:String}{e:Array Edge}{g:Option (Nat×Bool)}{l:List Oper}{a:Act}{w:World}(h:wpList P ops Q (⟨some d,o,t,p,e,g⟩::l) a w):wpList P ops Q (⟨some d,o,t,p,e,g⟩::l) a w:=h
theorem Zb {α:Sort _}(a:α):∃b,a=b:=⟨a,rfl⟩
theorem WI {α:Sort _}(a:α):∃b,b=a:=⟨a,rfl⟩
theorem ZF {w b:U1}{a:U3}{v:U2}(c:Below w w b)(h:w.cell? a=some v):b.cell? a=some v:=(c.cell (p:=a) (YC w _ h)).trans h
theorem Z1d (h:Below n w v):Below n w v.drew:=⟨h.os,h.tape,h.output,h.size,h.block⟩
def H2 (a:U1) (b c:U3) (d e:U2) (w:U1):Prop:=w.cell? b=some d∧w.cell? c=some e∧Below a.heap.size a w
theorem H2.drew (h:H2 w p P x y v):H2 w p P x y v.drew:=⟨h.1,h.2.1,Z1d h.2.2⟩
def H5 (a:U1) (b c d e f:U3) (g h i j k:U2) (w:U1):Prop:=w.cell? b=some g∧w.cell? c=some h∧w.cell? d=some i∧w.cell? e=some j∧w.cell? f=some k∧Below a.heap.size a w
theorem H5.keep {b c d:U3}{e f:U2}(a:Below v v u)(h:H5 w p P b c d x y V e f v):H5 w p P b c d x y V e f u:=⟨ZF a h.1,ZF a h.2.1,ZF a h.2.2.1,ZF a h.2.2.2.1,ZF a h.2.2.2.2.1,h.2.2.2.2.2.trans (a.mono h.2.2.2.2.2.size)⟩
theorem H5.drew {a b c:U3}{d e:U2}(h:H5 w p P a b c x y V d e v):H5 w p P a b c x y V d e v.drew:=⟨h.1,h.2.1,h.2.2.1,h.2.2.2.1,h.2.2.2.2.1,Z1d h.2.2.2.2.2⟩
theorem H5.below {a b c:U3}{d e:U2}(h:v.cell? p=some x∧v.cell? P=some y∧v.cell? a=some V∧v.cell? b=some d∧v.cell? c=some e∧Below w w v):Below w w v:=h.2.2.2.2.2
def H12 (a:U1) (b c d e f g h i j k l m:U3) (n o p q r s t v x y z A:U2) (w:U1):Prop:=w.cell? b=some n∧w.cell? c=some o∧w.cell? d=some p∧w.cell? e=some q∧w.cell? f=some r∧w.cell? g=some s∧w.cell? h=some t∧w.cell? i=some v∧w.cell? j=some x∧w.cell? k=some y∧w.cell? l=some z∧w.cell? m=some A∧Below a.heap.size a w
theorem H12.keep {b c d e f g i j k l:U3}{m n o q r s t z A:U2}(a:Below v v u)(h:H12 w p P b c d e f g i j k l x y V m n o q r s t z A v):H12 w p P b c d e f g i j k l x y V m n o q r s t z A u:=⟨ZF a h.1,ZF a h.2.1,ZF a h.2.2.1,ZF a h.2.2.2.1,ZF a h.2.2.2.2.1,ZF a h.2.2.2.2.2.1,ZF a h.2.2.2.2.2.2.1,ZF a h.2.2.2.2.2.2.2.1,ZF a h.2.2.2.2.2.2.2.2.1,ZF a h.2.2.2.2.2.2.2.2.2.1,ZF a h.2.2.2.2.2.2.2.2.2.2.1,ZF a h.2.2.2.2.2.2.2.2.2.2.2.1,h.2.2.2.2.2.2.2.2.2.2.2.2.trans (a.mono h.2.2.2.2.2.2.2.2.2.2.2.2.size)⟩
theorem H12.drew {a b c d e f g i j k:U3}{l m n o q r s t z:U2}(h:H12 w p P a b c d e f g i j k x y V l m n o q r s t z v):H12 w p P a b c d e f g i j k x y V l m n o q r s t z v.drew:=⟨h.1,h.2.1,h.2.2.1,h.2.2.2.1,h.2.2.2.2.1,h.2.2.2.2.2.1,h.2.2.2.2.2.2.1,h.2.2.2.2.2.2.2.1,h.2.2.2.2.2.2.2.2.1,h.2.2.2.2.2.2.2.2.2.1,h.2.2.2.2.2.2.2.2.2.2.1,h.2.2.2.2.2.2.2.2.2.2.2.1,Z1d h.2.2.2.2.2.2.2.2.2.2.2.2⟩
theorem H12.below {a b c d e f g i j k:U3}{l m n o q r s t z:U2}(h:v.cell? p=some x∧v.cell? P=some y∧v.cell? a=some V∧v.cell? b=some l∧v.cell? c=some m∧v.cell? d=some n∧v.cell? e=some o∧v.cell? f=some q∧v.cell? g=some r∧v.cell? i=some s∧v.cell? j=some t∧v.cell? k=some z∧Below w w v):Below w w v:=h.2.2.2.2.2.2.2.2.2.2.2.2
def H13 (a:U1) (b c d e f g h i j k l m n:U3) (o p q r s t v x y z A B C:U2) (w:U1):Prop:=w.cell? b=some o∧w.cell? c=some p∧w.cell? d=some q∧w.cell? e=some r∧w.cell? f=some s∧w.cell? g=some t∧w.cell? h=some v∧w.cell? i=some x∧w.cell? j=some y∧w.cell? k=some z∧w.cell? l=some A∧w.cell? m=some B∧w.cell? n=some C∧Below a.heap.size a w
theorem H13.keep {b c d e f g i j k l m:U3}{n o q r s t z A B C:U2}(a:Below v v u)(h:H13 w p P b c d e f g i j k l m x y V n o q r s t z A B C v):H13 w p P b c d e f g i j k l m x y V n o q r s t z A B C u:=⟨ZF a h.1,ZF a h.2.1,ZF a h.2.2.1,ZF a h.2.2.2.1,ZF a h.2.2.2.2.1,ZF a h.2.2.2.2.2.1,ZF a h.2.2.2.2.2.2.1,ZF a h.2.2.2.2.2.2.2.1,ZF a h.2.2.2.2.2.2.2.2.1,ZF a h.2.2.2.2.2.2.2.2.2.1,ZF a h.2.2.2.2.2.2.2.2.2.2.1,ZF a h.2.2.2.2.2.2.2.2.2.2.2.1,ZF a h.2.2.2.2.2.2.2.2.2.2.2.2.1,h.2.2.2.2.2.2.2.2.2.2.2.2.2.trans (a.mono h.2.2.2.2.2.2.2.2.2.2.2.2.2.size)⟩
theorem H13.drew {a b c d e f g i j k l:U3}{m n o q r s t z A B:U2}(h:H13 w p P a b c d e f g i j k l x y V m n o q r s t z A B v):H13 w p P a b c d e f g i j k l x y V m n o q r s t z A B v.drew:=⟨h.1,h.2.1,h.2.2.1,h.2.2.2.1,h.2.2.2.2.1,h.2.2.2.2.2.1,h.2.2.2.2.2.2.1,h.2.2.2.2.2.2.2.1,h.2.2.2.2.2.2.2.2.1,h.2.2.2.2.2.2.2.2.2.1,h.2.2.2.2.2.2.2.2.2.2.1,h.2.2.2.2.2.2.2.2.2.2.2.1,h.2.2.2.2.2.2.2.2.2.2.2.2.1,Z1d h.2.2.2.2.2.2.2.2.2.2.2.2.2⟩
theorem H13.below {a b c d e f g i j k l:U3}{m n o q r s t z A B:U2}(h:v.cell? p=some x∧v.cell? P=some y∧v.cell? a=some V∧v.cell? b=some m∧v.cell? c=some n∧v.cell? d=some o∧v.cell? e=some q∧v.cell? f=some r∧v.cell? g=some s∧v.cell? i=some t∧v.cell? j=some z∧v.cell? k=some A∧v.cell? l=some B∧Below w w v):Below w w v:=h.2.2.2.2.2.2.2.2.2.2.2.2.2
theorem H2.at_ (b:w.cell? p=some x)(c:w.cell? P=some y)(a:Below w w v):H2 w p P x y v:=⟨ZF a b,ZF a c,a⟩
def tb (s:BitVec 32):BitVec 32:=(s >>> 1) ^^^ (if s.getLsbD 0 then 0xedb88320#32 else 0#32)
def tn:Nat→BitVec 32→BitVec 32
 |0,s=>s
 |n+1,s=>tn n (tb s)
def by8 (s:BitVec 32) (b:BitVec 8):BitVec 32:=tn 8 (s ^^^ b.setWidth 32)
def Z3M (s:BitVec 32) (l:List (BitVec 8)):BitVec 32:=l.foldl by8 s
def crc (l:List (BitVec 8)):BitVec 32:= ~~~ (Z3M (~~~ 0#32) l)
theorem ZjG (m:Nat):∀(n:Nat) (s:BitVec 32),tn (m+n) s=tn n (tn m s):=by
 induction m with
 |zero=>intro n s;rw[Wz];rfl
 |succ m ih=>intro n s;rw[Nat.succ_add];exact ih n (tb s)
def le4 (c:BitVec 32):List (BitVec 8):= [c.setWidth 8,(c >>> 8).setWidth 8,(c >>> 16).setWidth 8,(c >>> 24).setWidth 8]
structure Pw where
 off:Bool
 armed:Bool
 left:Int
 offs:Int
def pw (s:Pw):Z_:= [.bool s.off,.bool s.armed,.int .i64 s.left,.int .i64 s.offs]
def Pw.new:Pw:=⟨false,false,0,0⟩
def Pw.step (s:Pw):Pw:=if s.off then s else if s.armed then (if s.left=0 then { s with off:=true,offs:=s.offs+1} else { s with left:=s.left-1}) else s
def Pw.goes (s:Pw):Bool:= !s.off && (!s.armed ||!decide (s.left=0))
theorem Z6Q {wr:U1}(h:w.grownBy wr (some n))(j:Nat)(u:U2):w.grownBy (wr.setCell (n,j) u) (some n):=
 ⟨h.os,h.tape,h.output,by simpa[World.setCell]using h.size,fun i b a=>(Below.heap_setCell wr ⟨n,j,none⟩ u i (fun e=>a (by rw[e]))).trans (h.block i b a)⟩
theorem Zh4 (w:U1):Calls prog 33 #[] w fun e a=>∃g,e=.returned (g,())∧w.heap.size≤g∧Row a g 123 (pw Pw.new)∧Below w w a:=by go_enter func33,ntmps33;go_wp2;go_ret;refine⟨_,rfl,Z4 _,Row.new w _ _,(Z8 _ _).alloc (Z4 _) _⟩
theorem Z3A (g:Nat)(s:Pw)(w:U1)(h:Row w g 123 (pw s)):Calls prog 68 #[(g,())] w fun e a=>e=.returned (.bool (!s.off))∧w=a:=by have b:w.cell? g=some (.bool s.off):=h.cell 0;go_enter func68,ntmps68;go_wp2;go_ret;exact⟨rfl,rfl⟩
theorem Z8K (g:Nat)(s:Pw)(w:U1)(h:Row w g 123 (pw s)):Calls prog 79 #[(g,())] w fun e a=>e=.returned s.offs∧w=a:=by have b:w.cell? (g,3)=some (.int .i64 s.offs):=h.cell 3;go_enter func79,ntmps79;go_wp2;go_ret;exact⟨rfl,rfl⟩
theorem Z8T (g:Nat)(s:Pw)(w:U1)(h:Row w g 123 (pw s))(i:0≤s.left∧s.left≤9223372036854775807)(j:0≤s.offs∧s.offs<4611686018427387904):
  Calls prog 186 #[(g,())] w fun e c=>e=.returned (.bool s.goes)∧Row c g 123 (pw s.step)∧w.grownBy c (some g):=by
 obtain⟨d,f,left,k⟩:=s;obtain⟨l,m⟩:=i;obtain⟨n,o⟩:=j;dsimp only at l m n o;have p:w.cell? g=some (.bool d):=h.cell 0;have q:w.cell? (g,1)=some (.bool f):=h.cell 1;have r:w.cell? (g,2)=some (.int .i64 left):=h.cell 2;have t:w.cell? (g,3)=some (.int .i64 k):=h.cell 3;obtain⟨v,x,y,z⟩:=Zk5 h;have H:=h;cases d
 ·cases f
  ·go_enter func186,ntmps186;go_wp2_with fail;refine(Z3A g _ _ H).mono ?_;rintro e b ⟨rfl,rfl⟩;go_wp2;go_ret;exact⟨rfl,H,World.grownBy.refl w _⟩
  ·by_cases a:left=0;·subst a;go_enter func186,ntmps186;go_wp2_with fail;refine(Z3A g _ _ H).mono ?_;rintro e b ⟨rfl,rfl⟩;go_wp2;go_ret;refine⟨rfl,((H.set 0 _).set 3 _).to ?_,Z6Q (Z6Q (World.grownBy.refl w _) _ _) _ _⟩;simp[pw,Pw.step]
   ·have A:(left==0)=false:=(by simp[a]);go_enter func186,ntmps186;go_wp2_with fail;refine(Z3A g _ _ H).mono ?_;rintro e b ⟨rfl,rfl⟩;go_wp2;go_ret;refine⟨Xu (by simp[Pw.goes,a]),(H.set 2 _).to ?_,Z6Q (World.grownBy.refl w _) _ _⟩;simp[pw,Pw.step,a]
 ·go_enter func186,ntmps186;go_wp2_with fail;refine(Z3A g _ _ H).mono ?_;rintro e b ⟨rfl,rfl⟩;go_wp2;go_ret;exact⟨rfl,H,World.grownBy.refl w _⟩
section
def Z06 (b c:Nat) (d f:V_) (Q:Exit→V_):Exit→V_
 | .goto l',a,w=>(l'=b∧d a w)∨(l'=c∧f a w)
 |e,a,w=>Q e a w
theorem ZcC {b c:Nat}{d f g:V_}{Q:Exit→V_}(h:∀a w,d a w→f a w):∀e a w,Z06 b c d g Q e a w→Z06 b c f g Q e a w:=fun e a w i=>by cases e <;> first|exact i|exact i.elim (fun x=>.inl ⟨x.1,h _ _ x.2⟩) .inr
section
variable {P:Program} {a:Act} {w:U1} {Q:Exit→V_}
theorem Z4B {c X U8:Code}(m o:Nat)(p q:V_)(μ:Act→U1→Nat)(H:findLabel c m=some (Code.skip.seq X))(I:findLabel c o=some (Code.skip.seq U8))
  (first:(∀a w,p a w→X.wp P (Z06 m o p q Q) a w)→c.wp P (Z06 m o p q Q) a w)
  (D:∀a w,p a w→X.wp P (Z06 m o (fun j l=>p j l∧μ j l<μ a w) q Q) a w)
  (J:∀a w,q a w→U8.wp P (Z06 m o (fun _ _=>False) (fun _ _=>False) Q) a w):(Code.scope c).wp P Q a w:=by
 have L:=first fun a w h=>wp_mono (D a w h) fun e j l=>ZcC (fun _ _ h=>h.1) e j l;have M:∀a w,p a w→(Code.skip.seq X).wp P (Z06 m o (fun j l=>p j l∧μ j l<μ a w) q Q) a w:=fun a w h=>wp_seq (wp_skip (D a w h));have N:∀a w,q a w→(Code.skip.seq U8).wp P (Z06 m o (fun _ _=>False) (fun _ _=>False) Q) a w:=fun a w h=>wp_seq (wp_skip (J a w h));intro b k r;have E:gotoIn m (.inScope c::k)=some (.code (Code.skip.seq X):: .inScope c::k):=by simp[gotoIn,H]
 have F:gotoIn o (.inScope c::k)=some (.code (Code.skip.seq U8):: .inScope c::k):=by simp[gotoIn,I]
 have G:∀a w,q a w→∃e j l,Q e j l∧Arrives P (lone (b.at a (.code (Code.skip.seq U8):: .inScope c::k)) r w) b k r e j l:=by
  intro a w C;obtain⟨e,d,f,i,g⟩:=N a w C b (.inScope c::k) r;cases e with
  |normal=>exact⟨.normal,d,f,i,Steps.trans g (.one step_inScope)⟩
  |exit id=>exact⟨.exit id,d,f,i,fun A B=>g A (by simp[exitTo,B])⟩
  |goto l'=>rcases i with ⟨_,h⟩|⟨_,h⟩ <;> exact h.elim
  |ret=>exact⟨_,d,f,i,g⟩
  |panic ch=>exact⟨_,d,f,i,g⟩
  |outgrown=>exact⟨_,d,f,i,g⟩
 have O:∀n a w,μ a w=n→p a w→∃e j l,Q e j l∧Arrives P (lone (b.at a (.code (Code.skip.seq X):: .inScope c::k)) r w) b k r e j l:=by
  intro n;induction n using Nat.strongRecOn with
  |_ n ih=>
   intro a w R C;obtain⟨e,d,f,i,g⟩:=M a w C b (.inScope c::k) r;cases e with
   |normal=>exact⟨.normal,d,f,i,Steps.trans g (.one step_inScope)⟩
   |exit id=>exact⟨.exit id,d,f,i,fun A B=>g A (by simp[exitTo,B])⟩
   |goto l'=>
    rcases i with ⟨rfl,s,S⟩|⟨rfl,s⟩;·obtain⟨t,v,x,y,z⟩:=ih _ Y d f rfl s;exact⟨t,v,x,y,.of_steps (g _ E) z⟩
    ·obtain⟨t,v,x,y,z⟩:=G d f s;exact⟨t,v,x,y,.of_steps (g _ F) z⟩
   |ret=>exact⟨_,d,f,i,g⟩
   |panic ch=>exact⟨_,d,f,i,g⟩
   |outgrown=>exact⟨_,d,f,i,g⟩
 obtain⟨e,d,f,i,g⟩:=L b (.inScope c::k) r;cases e with
 |normal=>exact⟨.normal,d,f,i,.head step_scope (Steps.trans g (.one step_inScope))⟩
 |exit id=>exact⟨.exit id,d,f,i,fun A B=>.head step_scope (g A (by simp[exitTo,B]))⟩
 |goto l'=>
  rcases i with ⟨rfl,s⟩|⟨rfl,s⟩;·obtain⟨t,v,x,y,z⟩:=O _ d f rfl s;exact⟨t,v,x,y,.of_steps (.head step_scope (g _ E)) z⟩
  ·obtain⟨t,v,x,y,z⟩:=G d f s;exact⟨t,v,x,y,.of_steps (.head step_scope (g _ F)) z⟩
 |ret=>exact⟨_,d,f,i,.of_steps (.one step_scope) g⟩
 |panic ch=>exact⟨_,d,f,i,.of_steps (.one step_scope) g⟩
 |outgrown=>exact⟨_,d,f,i,.of_steps (.one step_scope) g⟩
end
end
def Z1c:List Nat:= [1,3,5,15,17,51,85,255,26,46,114,150,161,248,19,53,95,225,56,72,216,115,149,164,247,2,6,10,30,34,102,170,229,52,92,228,55,89,235,38,106,190,217,112,144,171,230,49,83,245,4,12,20,60,68,204,79,209,104,184,211,110,178,205,76,212,103,169,224,59,77,215,98,166,241,8,24,40,120,136,131,158,185,208,107,189,220,127,129,152,179,206,73,219,118,154,181,196,87,249,16,48,80,240,11,29,39,105,187,214,97,163,254,25,43,125,135,146,173,236,47,113,147,174,233,32,96,160,251,22,58,78,210,109,183,194,93,231,50,86,250,21,63,65,195,94,226,61,71,201,64,192,91,237,44,116,156,191,218,117,159,186,213,100,172,239,42,126,130,157,188,223,122,142,137,128,155,182,193,88,232,35,101,175,234,37,111,177,200,67,197,84,252,31,33,99,165,244,7,9,27,45,119,153,176,203,70,202,69,207,74,222,121,139,134,145,168,227,62,66,198,81,243,14,18,54,90,238,41,123,141,140,143,138,133,148,167,242,13,23,57,75,221,124,132,151,162,253,28,36,108,180,199,82,246,1]
def Z32:List Nat:= [0,0,25,1,50,2,26,198,75,199,27,104,51,238,223,3,100,4,224,14,52,141,129,239,76,113,8,200,248,105,28,193,125,194,29,181,249,185,39,106,77,228,166,114,154,201,9,120,101,47,138,5,33,15,225,36,18,240,130,69,53,147,218,142,150,143,219,189,54,208,206,148,19,92,210,241,64,70,131,56,102,221,253,48,191,6,139,98,179,37,226,152,34,136,145,16,126,110,72,195,163,182,30,66,58,107,40,84,250,133,61,186,43,121,10,21,155,159,94,202,78,212,172,229,243,115,167,87,175,88,168,80,244,234,214,116,79,174,233,213,231,230,173,232,44,215,117,122,235,22,11,245,89,203,95,176,156,169,81,160,127,12,246,111,23,196,73,236,216,67,31,45,164,118,123,183,204,187,62,90,251,96,177,134,59,82,161,108,170,85,41,157,151,178,135,144,97,190,220,252,188,149,207,205,55,63,91,209,83,57,132,60,65,162,109,71,20,42,158,93,86,242,211,171,68,17,146,217,35,32,46,137,180,124,184,38,119,153,227,165,103,74,237,222,197,49,254,24,13,99,140,128,192,247,112,7]
def VK (a:Byte):Byte:=a <<< 1 ^^^ (if a &&& 128=0 then 0 else 27)
def gtm:Nat→Byte→Byte→Byte→Byte
 |0,_,_,o=>o
 |k+1,a,b,o=>if b=0 then o else gtm k (VK a) (b >>> 1) (if b &&& 1=1 then o ^^^ a else o)
def g3 (a:Byte):Byte:=VK a ^^^ a
def gx (i:Nat):Byte:=BitVec.ofNat 8 (Z1c.getD i 0)
def gl (b:Byte):Nat:=Z32.getD b.toNat 0
def ZU (a b:Byte):Byte:=if a=0∨b=0 then 0 else gx ((gl a+gl b) % 255)
def Z1_ (a:Byte):Byte:=if a=0 then 0 else gx ((255-gl a) % 255)
theorem Z1F:Z1c.length=256:=by decide+kernel
theorem Z9z:Z32.length=256:=by decide+kernel
def Z2i:Nat→List Nat
 |0=>List.replicate 256 0
 |k+1=>(Z2i k).set (Z1c.getD k 0) k
theorem Zfg:Z2i 255=Z32:=by decide+kernel
theorem ZjC:∀i,i<255→gtm 8 (gx i) 3 0=gx (i+1):=by decide+kernel
theorem ZjR:∀i,i<255→g3 (gx i)=gx (i+1):=by decide+kernel
theorem Zbk:∀i,i<255→gl (gx i)=i∧gx i≠0:=by decide+kernel
theorem ZjO:∀i,i<256→i≠0→Z32.getD i 0<255∧gx (Z32.getD i 0)=BitVec.ofNat 8 i:=by decide+kernel
theorem Z4t (b:Byte)(h:b≠0):gl b<255∧gx (gl b)=b:=by have:=ZjO b.toNat b.isLt (fun e=>h (by apply Z0s;rw[e];rfl));unfold gl;refine⟨this.1,this.2.trans ?_⟩;apply Z0s;simp
theorem Z5w:gx 255=1∧gx 0=1:=by decide+kernel
theorem ZhY:∀c:Byte,c &&& 128=if c.getLsbD 7 then 128 else 0:=by decide+kernel
theorem Z7o (a:Byte):VK a=a <<< 1 ^^^ (if a.getLsbD 7 then 27 else 0):=by unfold VK;rw[ZhY];cases a.getLsbD 7 <;> simp
theorem Ziu (a b:Byte):VK (a ^^^ b)=VK a ^^^ VK b:=by
 rw[Z7o,Z7o,Z7o,BitVec.getLsbD_xor,BitVec.shiftLeft_xor_distrib]
 have d:∀x y:Byte,x ^^^ y ^^^ 0=x ^^^ 0 ^^^ (y ^^^ 0):=fun x y=>Ze
 have e:∀x y c:Byte,x ^^^ y ^^^ c=x ^^^ c ^^^ (y ^^^ 0):=fun x y c=>by rw[show(0:Byte)=0#8 from rfl,Z4p];ac_rfl
 have f:∀x y c:Byte,x ^^^ y ^^^ c=x ^^^ 0 ^^^ (y ^^^ c):=fun x y c=>by rw[show(0:Byte)=0#8 from rfl,Z4p];ac_rfl
 have g:∀x y c:Byte,x ^^^ y ^^^ 0=x ^^^ c ^^^ (y ^^^ c):=fun x y c=>by
  rw[show x ^^^ c ^^^ (y ^^^ c)=x ^^^ y ^^^ (c ^^^ c) by ac_rfl,BitVec.xor_self];rfl
 cases a.getLsbD 7 <;> cases b.getLsbD 7
 ·exact d _ _
 ·exact f _ _ _
 ·exact e _ _ _
 ·exact g _ _ _
theorem ZjA (a b:Byte):g3 (a ^^^ b)=g3 a ^^^ g3 b:=by unfold g3;rw[Ziu];ac_rfl
def g3n:Nat→Byte→Byte
 |0,a=>a
 |k+1,a=>g3 (g3n k a)
theorem Zid (k:Nat)(a b:Byte):g3n k (a ^^^ b)=g3n k a ^^^ g3n k b:=by
 induction k with
 |zero=>rfl
 |succ k ih=>simp only[g3n,ih,ZjA]
theorem Zkb:g3 0=0:=Z5
theorem Zk1 (k:Nat):g3n k 0=0:=by
 induction k with
 |zero=>rfl
 |succ k ih=>simp only[g3n,ih,Zkb]
theorem ZjV (i:Nat):g3 (gx (i % 255))=gx ((i+1) % 255):=by
 have h:=Vv i (show 0<255 from Y);rw[ZjR _ h];by_cases a:i % 255=254;·rw[show(i+1) % 255=0 from Y,a];rw[Z5w.1,Z5w.2]
 ·rw[show(i+1) % 255=i % 255+1 from Y]
theorem ZjF (k i:Nat):g3n k (gx (i % 255))=gx ((i+k) % 255):=by
 induction k with
 |zero=>rfl
 |succ k ih=>simp only[g3n,ih,ZjV];rfl
theorem Z59 (a b:Byte)(h:a≠0):ZU a b=g3n (gl a) b:=by
 unfold ZU;by_cases c:b=0;·rw[if_pos (.inr c),c,Zk1]
 ·rw[if_neg (fun e=>e.elim h c)];have d:=Z4t b c;have:=ZjF (gl a) (gl b);rw[Z2R d.1,d.2]at this;rw[this,Nat.add_comm]
theorem WX (b:Byte):ZU 0 b=0:=by simp[ZU]
theorem WN (a:Byte):ZU a 0=0:=by simp[ZU]
theorem Z1B (a b:Byte):ZU a b=ZU b a:=by unfold ZU;rw[Nat.add_comm];by_cases h:a=0 <;> by_cases c:b=0 <;> simp only[h,c,true_or,or_true,or_self,if_true,if_false]
theorem Z6S (a b c:Byte):ZU a (b ^^^ c)=ZU a b ^^^ ZU a c:=by
 by_cases h:a=0;·rw[h,WX,WX,WX];rfl
 ·rw[Z59 a _ h,Z59 a b h,Z59 a c h,Zid]
theorem Z49 (a b:Byte)(h:a≠0)(c:b≠0):ZU a b≠0∧gl (ZU a b)=(gl a+gl b) % 255:=by unfold ZU;rw[if_neg (fun e=>e.elim h c)];have:=Zbk _ (Vv (gl a+gl b) (show 0<255 from Y));exact⟨this.2,this.1⟩
theorem Z8r (a b c:Byte):ZU a (ZU b c)=ZU (ZU a b) c:=by
 by_cases h:a=0
 ·rw[h,WX,WX,WX]
 by_cases d:b=0
 ·rw[d,WX,WN,WX]
 by_cases f:c=0
 ·rw[f,WN,WN,WN]
 have g:=Z49 a b h d;have i:=Z49 b c d f;have j:=Z49 a _ h i.1;have k:=Z49 _ c g.1 f;have e:gl (ZU a (ZU b c))=gl (ZU (ZU a b) c):=by
  rw[j.2,k.2,g.2,i.2];omega
 rw[←(Z4t _ j.1).2,←(Z4t _ k.1).2,e]
theorem Z0m (b:Byte):ZU 1 b=b:=by
 rw[Z59 1 b Z5];have:gl 1=0:=by decide+kernel
 rw[this];rfl
theorem Z9_ (a:Byte)(h:a≠0):ZU (Z1_ a) a=1∧Z1_ a≠0:=by have c:=Z4t a h;have b:=Zbk _ (Vv (255-gl a) (show 0<255 from Y));unfold Z1_;rw[if_neg h];refine⟨?_,b.2⟩;unfold ZU;rw[if_neg (fun e=>e.elim b.2 h),b.1];rw[show((255-gl a) % 255+gl a) % 255=0 from Y];exact Z5w.2
