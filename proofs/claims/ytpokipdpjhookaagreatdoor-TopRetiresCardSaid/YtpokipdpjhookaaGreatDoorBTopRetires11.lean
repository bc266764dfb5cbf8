/- Drv ISort PeelS PeelL PeelN PeelGo Put8 LayClone ArcK -/
import Derived.Shelf.SortG.Plain
import Derived.Shelf.SortG.SortNone
import Derived.Deep.DeepCutAuto
import Derived.Shelf.Strconv.Clone
import Derived.Test.YtpokipdpjhookaaGreatDoorBTopRetires05
import Derived.Test.YtpokipdpjhookaaGreatDoorBTopRetires06
set_option maxHeartbeats 8000000
set_option maxRecDepth 20000
set_option linter.all false
namespace Go.Proofs
open Go Go.RowKit Tryz
variable {w v:World} {n m k i j:Nat} {t T:TypeId} {x y V:Value} {l L:List Value}
structure Dr where
 s:Pw
 room:Nat
 L:Z0
 wait:Nat
 B:Z0
 has:Bool
 lost:Bool
def Dr.new (s:Pw) (a:Nat):Dr:=⟨s,a, [],0, [],false,false⟩
def Dr.went (d:Dr):Dr:={ d with B:= [],has:=false}
def Dr.append (d:Dr) (b:Y_):Dr×Int:=
 if b.length≠64 then (d,1) else if d.lost then (d,5) else if d.room≤d.L.length then (d,7) else if d.s.off then (d,14)
 else if d.s.goes then ({ d with L:=d.L++ [b],wait:=d.wait+1,s:=d.s.step}.went,0) else ({ d with L:=d.L++ [b],wait:=d.wait+1,s:=d.s.step},14)
def Dr.sync (d:Dr):Dr×Int:=
 if d.lost then (d,5) else if d.s.goes then ({ d with wait:=0,s:=d.s.step}.went,0) else ({ d with s:=d.s.step},14)
def Vd (a:Nat) (d:Dr) (b c:U2):Z_:= [.pointer (some ⟨a,0,none⟩),.int .i64 d.room,b,.int .i64 d.wait,c,.bool d.has,.bool d.lost]
structure DOk (m:Nat) (d:Dr):Prop where
 room:1≤d.room∧d.room≤512
 len:d.L.length≤d.room
 lenB:d.B.length≤d.room
 wait:d.wait≤d.L.length
 cells:∀x∈d.L,x.length=64
 cellsB:∀x∈d.B,x.length=64
 left:0≤d.s.left∧d.s.left≤9223372036854775807
 offs:0≤d.s.offs∧d.s.offs≤m
structure YM (F:Nat→Prop) (w:World) (g pg:Nat) (lv:Value) (lvs:List Value) (bv:Value) (bvs:List Value) (d:Dr):Prop where
 row:Row w g 161 (Vd pg d lv bv)
 pow:Row w pg 123 (pw d.s)
 fg:F g
 fp:F pg
 lt:∀k,F k→k<w.heap.size
 l:XE F w lv lvs d.L
 b:XE F w bv bvs d.B
 sep:∀k,lv.ownBlock=some k→bv.ownBlock≠some k
 dist:WF (lvs++bvs)
def Yj (F:U0) (w:U1) (g a:Nat) (d:Dr):Prop:=∃b c e f,YM F w g a b c e f d
theorem YM.only {F G:U0}{w f:U1}{g e:Nat}{i j:U2}{m n:Z_}{d:Dr}(h:YM F w g e i m j n d)(a:Only G w f)(c:∀k,F k→¬G k):YM F f g e i m j n d:=
 ⟨h.row.only a (c g h.fg),h.pow.only a (c e h.fp),h.fg,h.fp,fun k o=>YI (h.lt k o) a.size,h.l.only a c,h.b.only a c,h.sep,h.dist⟩
theorem Yj.only {F G:U0}{g:Nat}{d:Dr}(h:Yj F w g n d)(a:Only G w v)(b:∀k,F k→¬G k):Yj F v g n d:=by obtain⟨c,e,f,i,h⟩:=h;exact⟨c,e,f,i,h.only a b⟩
theorem Yj.new_ {F:U0}{d:Dr}(h:Yj F w n m d)(a:Below w w v):Yj F v n m d:=
 h.only (Only.of_new (F:=fun _=>False) a) (fun _ _ b=>b)
theorem YM.more {F G:U0}{w:U1}{g c:Nat}{e f:U2}{i j:Z_}{d:Dr}(h:YM F w g c e i f j d)(a:∀k,F k→G k)(m:∀k,G k→k<w):YM G w g c e i f j d:=
 ⟨h.row,h.pow,a g h.fg,a c h.fp,m,h.l.mono a,h.b.mono a,h.sep,h.dist⟩
theorem Yb (h:w.ownsRow n t k x i l)(d:Row w m T L)(e:t≠T):∀a,x.ownBlock=some a→a≠m:=fun a b f=>by
 subst f;rcases own_ne h d e with c|c;·rw[c]at b;cases b
 ·exact c b
theorem Zq.far {base g:Nat}{w:U1}{t:TypeId}{v:U2}{a:Z_}{b:Z0}{f:Z_}(h:Zq base w v a b)(d:Row w g t f)(l:32≠t)(m:5≠t)(i:Nat)(x:U2):Zq base (w.setCell (g,i) x) v a b:=by have n:Only (fun k=>k=g) w (w.setCell (g,i) x):=Only.set (F:=fun k=>k=g) (Only.refl _ w) (show g=g from rfl) i x;refine h.only n (fun k c e=>Yb h.own d l k c e) fun y o k c e=>?_;have q:a.length=b.length:=Zc h.own.1;obtain⟨j,p,rfl⟩:=ZZ o;have:=h.at_ j Y;rw[Z6,Z7 p]at this;exact Yb this d m k c e
theorem XE.far {F:U0}{g:Nat}{w:U1}{t:TypeId}{v:U2}{a:Z_}{b:Z0}{c:Z_}(h:XE F w v a b)(d:Row w g t c)(e:32≠t)(f:5≠t)(i:Nat)(x:U2):XE F (w.setCell (g,i) x) v a b:=
 ⟨h.own.far d e f i x,h.iv,h.is⟩
theorem Z9w (F:U0)(g a:Nat)(d:Dr)(w:U1)(h:Yj F w g a d):Calls prog 116 #[(g,())] w fun e b=>e=.returned (d.L.length:Int)∧w=b:=by obtain⟨k,m,f,n,h⟩:=h;obtain⟨A,c,rfl,_,_⟩:=h.l.own.form;have i:=h.row.cell 2;have j:(Vd a d (A,d.L.length,c) f)[2]? =some (.slice A d.L.length c):=rfl;rw[j]at i;go_enter func116,ntmps116;go_wp2;go_ret;exact⟨rfl,rfl⟩
theorem Zej (F:U0)(g a:Nat)(d:Dr)(w:U1)(h:Yj F w g a d):Calls prog 185 #[(g,())] w fun e b=>e=.returned (d.room:Int)∧w=b:=by obtain⟨c,k,f,l,h⟩:=h;have i:=h.row.cell 1;have j:(Vd a d c f)[1]? =some (.int .i64 (d.room:Int)):=rfl;rw[j]at i;go_enter func185,ntmps185;go_wp2;go_ret;exact⟨rfl,rfl⟩
theorem Z4P (F:U0)(g a:Nat)(d:Dr)(w:U1)(h:Yj F w g a d):Calls prog 74 #[(g,())] w fun e b=>e=.returned (.bool d.lost)∧w=b:=by obtain⟨c,k,f,l,h⟩:=h;have i:=h.row.cell 6;have j:(Vd a d c f)[6]? =some (.bool d.lost):=rfl;rw[j]at i;go_enter func74,ntmps74;go_wp2;go_ret;exact⟨rfl,rfl⟩
theorem Z9J (F:U0)(g f:Nat)(d:Dr)(m:Nat)(w:U1)(h:Yj F w g f d)(a:DOk m d):Calls prog 123 #[(g,())] w fun e j=>∃A c k,e=.returned (.slice A d.L.length c)∧Zq w j (.slice A d.L.length c) k d.L∧WF k∧Below w w j:=by obtain⟨B,o,p,C,h⟩:=h;obtain⟨A,c,rfl,_,_⟩:=h.l.own.form;have b:=h.row.cell 2;have q:(Vd f d (.slice A d.L.length c) p)[2]? =some (.slice A d.L.length c):=rfl;rw[q]at b;have r:=h.l.own.read rfl;have D:=a.len;have E:=a.room;have s:=Z a.cells;go_enter func123,ntmps123;go_wp2_with fail;refine(Zhc w A o d.L d.L.length c w r (Z4 _) (by omega) (fun i n=>by rw[Z6,Z7 n];have:=s _ (Zp n);simp only[Yz];omega)).mono ?_;rintro e G ⟨t,b,v,rfl,x,y,z⟩;go_wp2;go_ret;exact⟨t,b,v,rfl,x,y,z⟩
def ZbX:Go.Shelf.Ren:=⟨fun|53=>50|64=>103|63=>102|78=>174|79=>175|70=>165|71=>166|72=>167|73=>168|74=>169|75=>170|59=>171|76=>172|77=>173|88=>233|89=>234|90=>235|91=>236|92=>237|68=>238|96=>294|n=>n,fun|22=>22|23=>3|3=>3|51=>164|0=>0|67=>33|69=>236|4=>4|61=>229|60=>228|44=>195|5=>5|9=>9|75=>305|79=>309|83=>369|84=>370|n=>n,fun|n=>n⟩
theorem Z9T:Go.Proofs.SlLaysN.n53 prog ZbX where
 mixed:=Zi
 f53:=⟨f50.name,Z5,func50.trans (congrArg some Zi)⟩
 f59:=⟨f171.name,Z5,func171.trans (congrArg some Zi)⟩
 f63:=⟨f102.name,Z5,func102.trans (congrArg some Zi)⟩
 f64:=func103.trans (congrArg some Zi)
 f68:=⟨f238.name,Z5,func238.trans (congrArg some Zi)⟩
 f70:=⟨f165.name,Z5,func165.trans (congrArg some Zi)⟩
 f71:=⟨f166.name,Z5,func166.trans (congrArg some Zi)⟩
 f72:=⟨f167.name,Z5,func167.trans (congrArg some Zi)⟩
 f73:=⟨f168.name,Z5,func168.trans (congrArg some Zi)⟩
 f74:=⟨f169.name,Z5,func169.trans (congrArg some Zi)⟩
 f75:=⟨f170.name,Z5,func170.trans (congrArg some Zi)⟩
 f76:=⟨f172.name,Z5,func172.trans (congrArg some Zi)⟩
 f77:=⟨f173.name,Z5,func173.trans (congrArg some Zi)⟩
 f78:=func174.trans (congrArg some Zi)
 f79:=func175.trans (congrArg some Zi)
 f88:=⟨f233.name,Z5,func233.trans (congrArg some Zi)⟩
 f89:=func234.trans (congrArg some Zi)
 f90:=func235.trans (congrArg some Zi)
 f91:=⟨f236.name,Z5,func236.trans (congrArg some Zi)⟩
 f92:=⟨f237.name,Z5,func237.trans (congrArg some Zi)⟩
 f96:=⟨f294.name,Z5,func294.trans (congrArg some Zi)⟩
 t0:=underlying0
 a0:=isAgg0
 z0:=sizeOf0
 v0:=zeroValue0
 t3:=underlying3
 a3:=isAgg3
 z3:=sizeOf3
 v3:=zeroValue3
 t4:=underlying4
 a4:=isAgg4
 z4:=sizeOf4
 v4:=zeroValue4
 t5:=underlying5
 a5:=isAgg5
 z5:=sizeOf5
 v5:=zeroValue5
 t9:=underlying9
 a9:=isAgg9
 z9:=sizeOf9
 v9:=zeroValue9
 t22:=underlying22
 a22:=isAgg22
 z22:=sizeOf22
 v22:=zeroValue22
 t23:=underlying3
 a23:=isAgg3
 z23:=sizeOf3
 v23:=zeroValue3
 t44:=underlying195
 a44:=isAgg195
 z44:=sizeOf195
 v44:=zeroValue195
 t51:=underlying164
 a51:=isAgg164
 z51:=sizeOf164
 v51:=zeroValue164
 t60:=underlying228
 a60:=isAgg228
 z60:=sizeOf228
 v60:=zeroValue228
 t61:=underlying229
 a61:=isAgg229
 z61:=sizeOf229
 v61:=zeroValue229
 t67:=underlying33
 a67:=isAgg33
 z67:=sizeOf33
 v67:=zeroValue33
 t69:=underlying236
 a69:=isAgg236
 z69:=sizeOf236
 v69:=zeroValue236
 t75:=underlying305
 a75:=isAgg305
 z75:=sizeOf305
 v75:=zeroValue305
 t79:=underlying309
 a79:=isAgg309
 z79:=sizeOf309
 v79:=zeroValue309
 t83:=underlying369
 a83:=isAgg369
 z83:=sizeOf369
 v83:=zeroValue369
 t84:=underlying370
 a84:=isAgg370
 z84:=sizeOf370
 v84:=zeroValue370
def XI (a:W_):W_:=a.mergeSort fun x y=>decide (x≤y)
theorem Z40 (a:W_):(XI a).length=a.length:=by unfold XI;exact List.length_mergeSort _
theorem Z3k (a:W_):(XI a).Perm a:=List.mergeSort_perm _ _
theorem Z7Z (d:W_):(XI d).Pairwise (· ≤ ·):=by have:=List.pairwise_mergeSort (le:=fun x y:Int=>decide (x≤y)) (fun a b c e f=>by simp at*;omega) (fun a b=>Zx) d;exact this.imp fun h=>of_decide_eq_true h
theorem ZbH (a b:W_)(rest:Z_)(c:b.length=a.length):Sort.putCells (Value.int .i64) 0 b.toArray (a.map iv++rest).toArray=(b.map iv++rest).toArray:=by
 unfold Sort.putCells;apply Array.ext';simp only[Z2T];apply VP;intro k;simp only[Array.toList_mapIdx,Z2T,Z2W,List.size_toArray,ZY,Wz,true_and,Nat.sub_zero];by_cases h:k<a.length;·rw[Yp (by simpa using h),Yp Zx,ZO,ZO,Z7 h,Z7 Y];simp only[Z0p,if_pos (show k<b.length from Y)];rw[getElem!_pos _ k Zx];rfl
 ·rw[Y7 Zx,Y7 Zx];simp only[Zz,c,if_neg (show ¬k<a.length from Y)];cases rest[k-a.length]? <;> rfl
theorem ZeI (g n c:Nat)(a:W_)(rest:Z_)(w:U1)(h:Row w g 3 (a.map iv++rest))(r:a.length=n)(B:n≤1048576):
  Calls prog 50 #[(g,n,c)] w fun e b=>e=.returned (.tuple #[])∧Row b g 3 ((XI a).map iv++rest)∧Only (fun q=>q=g) w b:=by
 subst r;have f:=h.lt;have s:Sort.Holds (Value.int .i64) w g 0 a.toArray:=fun j i=>by
  rw[Wz];refine⟨?_,h.frozen j⟩;have l:j<a.length:=by simpa using i
  rw[h.cell j,Yp (by simpa using l),ZO,Z7 l,getElem!_pos _ j i];rfl
 have o:=AnyG.slices_Sort_int Z9T g 0 c a w s f Y;change Calls prog 50 _ _ _ at o;refine o.mono ?_;rintro e b ⟨rfl,m,d,rfl⟩;have p:(Sort.putRow (Value.int .i64) (Sort.ahead w m) g 0 (XI a).toArray).heap.size=w.heap.size:=by simp[Sort.putRow,Sort.mapBlock,Sort.ahead]
 have t:(Sort.putRow (Value.int .i64) (Sort.ahead w m) g 0 (XI a).toArray).heap[g]? =some (.cells ((XI a).map iv++rest).toArray 3 (0,0)):=by unfold Sort.putRow Sort.mapBlock;simp only[Sort.ahead];rw[Z2g,if_pos rfl];have v:w.heap[g]? =some (.cells (a.map iv++rest).toArray 3 (0,0)):=h;rw[v];simp only[Z0p,Sort.onCells];rw[ZbH a (XI a) rest (Z40 a)]
 refine⟨rfl,?_,?_⟩;·show(Sort.grow _ d).heap[g]? =_;rw[Sort.heap_grow_old _ _ (by rw[show(a.mergeSort fun x y=>decide (x≤y))=XI a from rfl,p];exact f)];exact t
 ·refine⟨rfl,rfl,rfl,?_,fun k z A=>?_⟩;·show w.heap.size≤(Sort.grow _ d).heap.size;simp[Sort.grow,Sort.putRow,Sort.mapBlock,Sort.ahead]
  ·show(Sort.grow _ d).heap[k]? =_;rw[Sort.heap_grow_old _ _ (by rw[show(a.mergeSort fun x y=>decide (x≤y))=XI a from rfl,p];exact z)];unfold Sort.putRow Sort.mapBlock;simp only[Sort.ahead];rw[Z2g,if_neg (fun e=>A e.symm)]
theorem Z8x:∀{a b:W_},a.Perm b→a.Pairwise (· ≤ ·)→b.Pairwise (· ≤ ·)→a=b
 | [],b,h,_,_=>by rw[List.nil_perm.1 h]
 |x::a, [],h,_,_=>absurd h.symm Ze
 |x::a,y::b,h,ha,hb=>by
  have e:x=y:=by
   have f:x∈y::b:=h.mem_iff.1 (XP ..);have g:y∈x::a:=h.mem_iff.2 (XP ..);rcases Xy.1 f with c|c;·exact c
   ·rcases Xy.1 g with d|d;·exact d.symm
    ·have:=(VF.1 ha).1 y d;have:=(VF.1 hb).1 x c;omega
  subst e;rw[Z8x (List.Perm.cons_inv h) (VF.1 ha).2 (VF.1 hb).2]
theorem Z6a (j:Nat)(A:X_)(n c:Nat)(a:W_)(w:U1)(h:w.ownsRow j 3 1 (A,n,c) n (a.map iv))(o:n≤1048576):
  Calls prog 50 #[(A,n,c)] w fun e d=>e=.returned (.tuple #[])∧d.ownsRow j 3 1 (A,n,c) n ((XI a).map iv)∧w.grownBy d (Value.slice A n c).ownBlock:=by
 have f:a.length=n:=by have:=h.1;simpa using this
 rcases VG n with l|l;·subst l;have p:a=[]:=List.length_eq_zero_iff.1 f;subst p;have m:=AnyG.slices_Sort_int_none Z9T A c w;change Calls prog 50 _ _ _ at m;refine m.mono ?_;rintro e d ⟨rfl,rfl⟩;refine⟨rfl,?_,World.grownBy.refl _ _⟩;have:XI []=[]:=List.length_eq_zero_iff.1 (Z40 []);rw[this];exact h
 ·rcases h.2 with ⟨_,I⟩|⟨g,J,i,q,r,s,t,v,x,y⟩;·omega
  ·injection q with z _ B;subst z B;have C:i.toList.length=c:=(by simpa using x);have D:i.toList=a.map iv++i.toList.drop n:=(by rw[←y,Wy,Vh]);have E:Row w g 3 (a.map iv++i.toList.drop n):=(by rw[←D];simpa[Row]using s);refine(ZeI g n c a _ w E f o).mono ?_;rintro e d ⟨rfl,F,b⟩;refine⟨rfl,?_,⟨b.os,b.tape,b.output,b.size,fun k G H=>b.block k G (fun e=>H (by rw[e];rfl))⟩⟩;have:=F.own (base:=j) (size:=1) (n:=n) (cap:=c) r t v (by rw[Zw,Zz,Z40,Z0r,C,f];omega);rwa [List.take_left' (by rw[Zz,Z40,f];omega)]at this
def Vf (s v:Y_) (j:Nat):Y_:=Yl (s.take j) (v.take j)++s.drop j
theorem Zdz (s v:Y_):Vf s v 0=s:=by unfold Vf Yl;simp
theorem Zec {s v:Y_}(h:s.length=v.length):Vf s v v.length=Yl s v:=by unfold Vf;rw[ZP Y,ZP (Z4 _),List.drop_of_length_le Y,Wo]
theorem Zes {s v:Y_}(h:s.length=v.length)(j:Nat):(Vf s v j).length=s.length:=by unfold Vf;rw[Zw,Z0d];simp;omega
theorem ZeB {s v:Y_}(h:s.length=v.length){j:Nat}(a:j<s.length):(Vf s v j).getD j 0=s.getD j 0:=by unfold Vf;rw[Z6,Z6,Y7 (by rw[Z0d];simp;omega),Z0d];simp only[ZK,show min j s.length=j from Y,show min j v.length=j from Y,Nat.min_self,W9,Z0o,XV]
theorem Zfa {s v:Y_}(h:s.length=v.length){j:Nat}(a:j<s.length):(Vf s v j).set j (s.getD j 0 ^^^ v.getD j 0)=Vf s v (j+1):=by
 have b:j<v.length:=Y;have c:(Yl (s.take j) (v.take j)).length=j:=by rw[Z0d];simp;omega
 unfold Vf;rw[Wn _ _ Y,c,W9,Z0q a,YL];rw[ZR a,ZR b];have:Yl (s.take j++ [s[j]]) (v.take j++ [v[j]])=Yl (s.take j) (v.take j)++ [s[j] ^^^ v[j]]:=by unfold Yl;rw[List.zipWith_append Zx];rfl
 rw[this,YH,List.singleton_append,Z6,Z6,Z7 a,Z7 b];rfl
theorem ZdB {s v:Y_}(h:s.length=v.length){j:Nat}(a:j<s.length):(Vf s v j).set j (s.getD j 0 ^^^ v.getD j 0)=Vf s v (j+1):=Zfa h a
section
structure KV (base N:Nat) (w:World) (gk gv:Nat) (vs:List Value) (S:Zk):Prop where
 k:Row w gk 4 (S.known.map Value.bool)
 v:Row w gv 32 vs
 kl:S.known.length=N
 vl:vs.length=N
 sl:S.vals.length=N
 at_:∀i,i<N→OB base w (vs.getD i undef) (S.vals.getD i [])
 gek:base≤gk
 gev:base≤gv
 nl:∀i,i<N→S.known.getD i false=false→vs.getD i undef=.slice none 0 0
section
variable {base N:Nat} {w w':U1} {gk gv:Nat} {vs:Z_} {S:Zk}
theorem KV.below (h:KV base N w gk gv vs S)(a:Below w w w'):KV base N w' gk gv vs S:=
 ⟨h.k.below a h.k.lt,h.v.below a h.v.lt,h.kl,h.vl,h.sl,fun i b=>(h.at_ i b).below a,h.gek,h.gev,h.nl⟩
theorem KV.cellk (h:KV base N w gk gv vs S){c:Int}(a:0≤c)(b:c<(N:Int)):w.cell? (gk,c.toNat)=some (.bool (S.kn c)):=by rw[h.k.cell,ZO];unfold Zk.kn;rw[Z6,Z7 (by rw[h.kl];omega)];rfl
theorem KV.cellv (h:KV base N w gk gv vs S){c:Int}(f:0≤c)(g:c<(N:Int)):∃A m,w.cell? (gv,c.toNat)=some (.slice A (S.val c).length m)∧(S.val c).length≤m∧m≤9223372036854775807∧OB base w (.slice A (S.val c).length m) (S.val c):=by have a:=h.at_ c.toNat Y;obtain⟨A,m,e,b,d,i⟩:=Y8 a;rw[e]at a;refine⟨A,m,?_,b,d,a⟩;rw[h.v.cell];rw[Z6,Z7 (by rw[h.vl];omega)]at e;rw[Z7 (by rw[h.vl];omega)];exact congrArg some e
end
structure LS (w0 w:World) (g4 g5:Nat) (sc sd:Value) (oc:List Int) (od:List Byte):Prop where
 r4:Row w g4 281 [.slice none 0 0,.slice none 0 0]
 r5:Row w g5 281 [sc,sd]
 oc:OI w0.heap.size w sc oc
 od:OB w0.heap.size w sd od
 be:Below w0.heap.size w0 w
 ge4:w0.heap.size≤g4
 ge5:w0.heap.size≤g5
 ne:g4≠g5
theorem _root_.Go.World.ownsRow.farC {base a n g:Nat}{w:U1}{e t:TypeId}{v:U2}{b c:Z_}(h:w.ownsRow base e a v n b)(d:Row w g t c)(f:e≠t)(i:Nat)(x:U2):(w.setCell (g,i) x).ownsRow base e a v n b:=
 h.kept (row:=some g) ⟨rfl,rfl,rfl,by simp[World.setCell],fun k _ j=>Below.heap_setCell w ⟨g,i,none⟩ x k (fun e=>j (by rw[e]))⟩ (own_ne h d f)
theorem Z4J (w:U1)(g j:Nat)(u:U2):w.grownBy (w.setCell (g,j) u) (some g):=⟨rfl,rfl,rfl,by simp[World.setCell],fun k _ a=>Below.heap_setCell w ⟨g,j,none⟩ u k (fun e=>a (by rw[e]))⟩
section
variable {w0 w w':U1} {g4 g5:Nat} {sc sd:U2} {oc:W_} {od:Y_}
theorem LS.below (h:LS w0 w g4 g5 sc sd oc od)(a:Below w w w'):LS w0 w' g4 g5 sc sd oc od:=
 ⟨h.r4.below a h.r4.lt,h.r5.below a h.r5.lt,h.oc.below a,h.od.below a,h.be.trans (a.mono h.be.size),h.ge4,h.ge5,h.ne⟩
theorem LS.app (h:LS w0 w g4 g5 sc sd oc od){c:Int}{A:X_}{m:Nat}(f:w'.ownsRow w0 3 1 (A,(oc.length+1),m) (oc.length+1) (oc.map iv++ [iv c]))(d:w.grownBy w' sc.ownBlock):
  LS w0 (w'.setCell g5 (A,(oc.length+1),m)) g4 g5 (A,(oc.length+1),m) sd (oc++ [c]) od∧w'.cell? g5=some sc∧w'.frozen? ⟨g5,0,none⟩=false:=by
 have g:some g4≠sc.ownBlock:=fun e=>by
  rcases own_ne h.oc h.r4 Z5 with a|a;·rw[a]at e;cases e
  ·exact a e.symm
 have i:some g5≠sc.ownBlock:=fun e=>by
  rcases own_ne h.oc h.r5 Z5 with a|a;·rw[a]at e;cases e
  ·exact a e.symm
 have j:=h.r4.grown d g;have b:=h.r5.grown d i;have l:OB w0 w' sd od:=h.od.keep d (YF h.od h.oc Z5);have n:=h.be.grown d h.be.size (fun k o=>(h.oc.lt k o).1);refine⟨⟨j.far (p:=g5) h.ne _,b.set 0 _,?_,l.farC b Z5 0 _,n.setCell (p:=(⟨g5,0,none⟩:U3)) h.ge5 _,h.ge4,h.ge5,h.ne⟩,?_,b.frozen 0⟩;·unfold OI;rw[Zw,ZV];exact World.ownsRow.farC f b Z5 0 _
 ·have:=b.cell 0;simpa using this
theorem LS.put {g n m:Nat}(h:LS w0 w g4 g5 sc (g,n,m) oc od){j:Nat}{b:Byte}(c:n=od.length)(d:(w.setCell (g,j) (Za b)).ownsRow w0 5 1 (g,n,m) n ((od.set j b).map Za))(f:w0.heap.size≤g):
  LS w0 (w.setCell (g,j) (Za b)) g4 g5 sc (g,n,m) oc (od.set j b):=by
 have a:∀{t:TypeId} {q:Nat} {i:Z_},5≠t→Row w q t i→q≠g:=fun k l=>by
  rcases own_ne h.od l k with e|e;·cases e
  ·exact fun o=>e (by rw[o];rfl)
 refine⟨h.r4.far (p:=(g,j)) (a Z5 h.r4) _,h.r5.far (p:=(g,j)) (a Z5 h.r5) _,h.oc.kept (Z4J w g j _) ?_,?_,h.be.setCell (p:=(⟨g,j,none⟩:U3)) f _,h.ge4,h.ge5,h.ne⟩
 ·rcases YF h.oc h.od Z5 with e|e;·exact .inl e
  ·exact .inr e
 ·unfold OB;rw[Ya,←c];exact d
end
end
theorem Z7N {S:Zk}{cols:W_}{k:Nat}(a:k<cols.length)(h:S.kn (cols.getD k 0)=false):S.opn (cols.take (k+1))=S.opn (cols.take k)++ [cols.getD k 0]:=by unfold Zk.opn;rw[ZR a,Vs];rw[Z6,Z7 a]at h ⊢;simp only[Yz]at h ⊢;simp[h]
theorem Z8e {S:Zk}{cols:W_}{k:Nat}(a:k<cols.length)(h:S.kn (cols.getD k 0)=true):S.opn (cols.take (k+1))=S.opn (cols.take k):=by unfold Zk.opn;rw[ZR a,Vs];rw[Z6,Z7 a]at h;simp only[Yz]at h;simp[h]
def Zk.sumTo (S:Zk) (q:Zt) (k:Nat):Y_:=(q.cols.take k).foldl S.stepD q.data
theorem Zew (S:Zk)(q:Zt):S.sumTo q q.cols.length=S.rest q:=by unfold Zk.sumTo Zk.rest;rw[Xm]
theorem ZcI (S:Zk)(q:Zt){k:Nat}(a:k<q.cols.length):S.sumTo q (k+1)=S.stepD (S.sumTo q k) (q.cols.getD k 0):=by unfold Zk.sumTo;rw[ZR a,Z2m,Z6,Z7 a];rfl
def ZjS (w:U1) (S:Zk) (q:Zt) (e:Ending) (a:U1):Prop:=
 ∃b c d f,e=.returned (.agg #[.slice b (S.opn q.cols).length c,.slice d q.data.length f])∧OI w.heap.size a (.slice b (S.opn q.cols).length c) (S.opn q.cols)∧OB w.heap.size a (.slice d q.data.length f) (S.rest q)∧Below w.heap.size w a
theorem Z9Y (q:Zt)(S:Zk)(aK N gp gk gv:Nat)(vs:Z_)(vl:U2)(B:Nat)(D r:X_)(G E h a:Nat)(w:U1)(hp:Row w gp 348 [vl,(gk,N,N),(gv,N,N)])
  (an:KV aK N w gk gv vs S) (h1:Sl w B 1 D h (q.cols.map iv)) (h2:Sl w B 1 r a (q.data.map Za)) (ao:q.cols.length=h) (ap:q.data.length=a) (hB:B≤w) (hc:∀c∈q.cols,0≤c∧c<(N:Int)) (hN:N≤64)
  (hD:∀c:Int,0≤c→S.kn c=true→(S.val c).length=a) (bb:a≤1048576) (bc:h≤1048576):
  Calls prog 274 #[(gp,()),.agg #[(D,h,G),(r,a,E)]] w (ZjS w S q):=by
 obtain⟨i0,hi,aL,aM,aO⟩:=info_parts VC;have H:=Z ao;have aP:=h1;have T:=Z ap;have HD:=Z hD;have HC:=Z hc;have HP:=hp;have ac:=an;have aq:=Row.new w 281 #[(D,h,G),(r,a,E)];have a5:Below w w (w.alloc (.cells #[(D,h,G),(r,a,E)] 281)):=(Z8 _ _).alloc (Z4 _) _;have a6:=Row.new (w.alloc (.cells #[(D,h,G),(r,a,E)] 281)) 281 #[(),()];have U:=a5.alloc a5.size (.cells #[(),()] 281);have V:=aq.alloc (.cells #[(),()] 281);have ar:(w.alloc (.cells #[(D,h,G),(r,a,E)] 281)).heap.size=w.heap.size+1:=Ze;rw[ar]at a6;have bd:((w.alloc (.cells #[(D,h,G),(r,a,E)] 281)).alloc (.cells #[(),()] 281)).heap.size=w.heap.size+2:=Ze;have av:=h1.below (U.mono hB);have H2:=h2.below (U.mono hB);have u0:=Z9 V 0;have u1:=Z9 V 1;have H1:=Z av;clear ao ap hD hc hp an aq a5 ar av h1 h2;go_enter func274,ntmps274;go_wp2_with fail;have aQ:=Z u0;clear u0 u1;generalize (w.alloc (.cells #[(D,h,G),(r,a,E)] 281)).alloc (.cells #[(),()] 281)=wb at*;refine(Z0A B r q.data a E wb H2 Y Y).mono ?_;rintro e s ⟨v5,rfl,o5,b5⟩;obtain⟨n,o,rfl,aR,bf,_⟩:=Y8 o5;have aT:=b5.size;have aw:OB w s (n,q.data.length,o) q.data:=ZA o5 Y;rw[T]at aR;have hq:=(Row.new s 281 #[(),(n,q.data.length,o)]);have ad:Below s s (s.alloc (.cells #[(),(n,q.data.length,o)] 281)):=(Z8 _ _).alloc (Z4 _) _;have W:=b5.trans (ad.mono aT);have a7:Hid (LS w (s.alloc (.cells #[(),(n,q.data.length,o)] 281)) (w.heap.size+1) s.heap.size () (n,q.data.length,o) [] q.data):=
  Z ⟨a6.below W a6.lt,hq,Yi _ _ _ _,aw.below ad,U.trans (W.mono U.size),Y,Y,Y⟩
 have aU:=H1.below (W.mono Y);have v0:=(V.below W V.lt).cell 0;simp only[ZE]at v0;have a8:=T.out;rw[a8]at a7 v0 aU;clear hq ad W aw o5 b5 a6 V H1 H2 aQ U;try simp only[a8]
 go_wp2_with fail;try simp only[a8]
 obtain⟨g5,a9⟩:=Zb s.heap.size;rw[a9]at a7;have bg:=Z a9;try simp only[a9]
 clear a8 a9;generalize s.alloc (.cells #[(),(n,a,o)] 281)=wl at*;have bh:g5<wl:=a7.r5.lt;go_loopw [17] (fun i wr=>∃(k:Nat) (t:X_) (l y:Nat),k≤h∧l≤k∧i=.int .i64 (k:Int)∧Hid ((S.opn (q.cols.take k)).length=l)∧LS w wr (w.heap.size+1) g5 (t,l,y) (n,a,o) (S.opn (q.cols.take k)) (S.sumTo q k)) (fun i _=>h-(intOf i).toNat)
 ·exact⟨0,none,0,0,ZY _,Z4 _,rfl,rfl,a7⟩
 ·obtain⟨k,t,l,y,hk,bi,rfl,z,f⟩:=hrel;have M:=f;have O:=f.be;have bj:=O.size;have bk:=f.r5.lt;have bl:=f.r5.frozen 0;have bm:=Z9 f.r5 0;have aV:=Z9 f.r5 1;have aa:=HP.below O HP.lt;have p1:=Z9 aa 1;have p2:=Z9 aa 2;by_cases P:k<h
  ·obtain⟨b3,o3,e3,a5,aW⟩:=(aP.below (O.mono hB)).get P (Z1i q.cols k (by rw[H];exact P));subst e3;have ax:q.cols.getD k 0∈q.cols:=(by rw[Z6,Z7 (by rw[H];exact P)];exact Zp _);obtain⟨a0,ae⟩:=HC _ ax;have af:=Z7N (S:=S) (cols:=q.cols) (k:=k) (by rw[H];exact P);have ag:=Z8e (S:=S) (cols:=q.cols) (k:=k) (by rw[H];exact P);have ah:=ZcI S q (k:=k) (by rw[H];exact P);obtain⟨x,hx⟩:=Zb (q.cols.getD k 0);rw[hx]at aW a0 ae af ag ah;obtain⟨d,rfl⟩:=Z3I a0;have ay:=Z af;have az:=Z ag;have ai:=Z ah;have aj:=ac.below O;have ck:=aj.cellk a0 ae;rw[ZL]at ck;have bn:d<N:=Y;clear af ag ah hx ax aa;cases hkn:S.kn (d:Int) with
   |false=>
    rw[hkn]at ck;have a1:=ay hkn;have a2:S.sumTo q (k+1)=S.sumTo q k:=(by rw[ai];unfold Zk.stepD;rw[if_neg (by simp[hkn])]);have Q:=Z a1;have ak:=Z a2;have a3:Below wr wr (wr.alloc (.cells #[(d:Int)] 3)):=(Z8 _ _).alloc (Z4 _) _;have aB:=f.below a3;have HO:=aB.oc;unfold OI at HO;rw[z]at HO;clear a1 a2 a3 f aj hkn p2 aV;go_wp2_with (at_builtin;go_must (refine Y5 rfl (.tmp 30) (.tmp 32) 22 rfl w 3 i0 Nat 1 8 underlying22 hi aL aM aO rfl Y (t,l,y) l _ rfl HO _ _ 1 1 [(d:Int)] rfl (Sl.fresh _ _ _ _ 1 rfl) (by simp[Value.oneCell']) (l+1) rfl _ rfl Y Y Zx ?_);intro A6 c6 w6 o6 g6 _;have h7:=aB.app (c:=(d:Int)) (A:=A6) (m:=c6) (by rw[z];exact o6) g6;rw[z]at h7;obtain⟨b0,k7,f7⟩:=h7;clear o6 g6)
    go_roundw;·exact⟨k+1,A6,l+1,c6,Y,Y,Zg,Z (by rw[Q,Zw,z];rfl),by rw[Q,ak];exact b0⟩
    ·exact Zh
   |true=>
    rw[hkn]at ck;have bo:=Z hkn;obtain⟨Av,mv,cv,b1,bp,aC⟩:=ac.cellv a0 ae;rw[ZL]at cv;have b2:=(O.cell (p:=(gv,d)) ac.v.lt).trans cv;have al:=HD _ a0 hkn;have F:=Z al;rw[al]at b2 b1;have aD:=Y8 aC;have b6:Hid (Sl w w 1 Av a ((S.val (d:Int)).map Za)):=Z (by obtain⟨Aq,cq,e,_,_,R⟩:=aD;injection e with e1 e2 e3;subst e1;rw[F]at R;exact R);have I:Hid ((S.sumTo q k).length=a):=Z (by unfold Zk.sumTo;exact Z4N HD _ _ (fun c hc=>(HC c (Z3F hc)).1) T);have a1:=az hkn;have a2:S.sumTo q (k+1)=Yl (S.sumTo q k) (S.val (d:Int)):=(by rw[ai];unfold Zk.stepD;rw[if_pos hkn]);have Q:=Z a1;have ak:=Z a2;obtain⟨aE,aF⟩:=Zb (S.opn (q.cols.take k));rw[aF]at f z Q;have M:=f;clear a1 a2 aF al aD aC cv f aj hkn ay az ai;obtain⟨wo,rfl⟩:∃wo:U1,wo=wr:=⟨_,rfl⟩;go_wp2_with fail;have b7:Hid (LS w wo (w.heap.size+1) g5 (t,l,y) (n,a,o) aE (Vf (S.sumTo q k) (S.val (d:Int)) 0)):=Z (by rw[Zdz];exact M);go_loopw [43] (fun i w3=>∃j:Nat,j≤a∧i=.int .i64 (j:Int)∧LS w w3 (w.heap.size+1) g5 (t,l,y) (n,a,o) aE (Vf (S.sumTo q k) (S.val (d:Int)) j)) (fun i _=>a-(intOf i).toNat)
    ·exact⟨0,ZY _,rfl,b7⟩
    ·obtain⟨j,hj,rfl,J⟩:=hrel;have b9:=J.be;by_cases a4:j<a
     ·obtain⟨b4,o4,e4,bq,aG⟩:=(b6.below b9).get a4 (XF _ j (by rw[F];exact a4));subst e4;have am:(Vf (S.sumTo q k) (S.val (d:Int)) j).length=a:=(by rw[Zes (by rw[I,F]),I]);have ab:=J.od;unfold OB at ab;rw[am]at ab;obtain⟨g,e5,ba,br,aH,bs,aI⟩:=ZiL (i:=j) ab a4 ((Vf (S.sumTo q k) (S.val (d:Int)) j).getD j 0 ^^^ (S.val (d:Int)).getD j 0);subst e5;have L:=J.put (j:=j) (b:=(Vf (S.sumTo q k) (S.val (d:Int)) j).getD j 0 ^^^ (S.val (d:Int)).getD j 0) am.symm aI ba;rw[ZeB (by rw[I,F]) (by rw[I];exact a4)]at aH L;rw[ZdB (by rw[I,F]) (by rw[I];exact a4)]at L;have q1:=Z9 J.r5 1;obtain⟨bx,a3⟩:=Zb ((S.sumTo q k).getD j 0);obtain⟨bz,aJ⟩:=Zb ((S.val (d:Int)).getD j 0);rw[a3]at aH L;rw[aJ]at aG L;unfold Za at aG L;rw[←x8' bx bz]at L;clear aI ab am a3 aJ J;go_wp2;go_roundw;·exact⟨j+1,Y,Zg,L⟩
      ·exact Zh
     ·obtain rfl:j=a:=Y;rw[show j=(S.val (d:Int)).length from F.symm,Zec (by rw[I,F]),←ak,F]at J;go_wp2;go_roundw;·exact⟨k+1,t,l,y,Y,Y,Zg,Z (by rw[Q];exact z),by rw[Q];exact J⟩
      ·exact Zh
  ·obtain rfl:k=h:=Y;rw[show q.cols.take k=q.cols by rw[←H,Xm]]at f z;rw[show S.sumTo q k=S.rest q by rw[←H,Zew]]at f;have M:=f;clear f p1 p2 aa;have C:=M.r4;have y0:=C.frozen 0;have y1:=C.frozen 1;have z0:=C.cell 0;have z1:=C.cell 1;have R2:=(C.set 0 (t,l,y)).set 1 (n,a,o);have q0:=R2.cell 0;have q1:=R2.cell 1;simp only[Xd,ZE,YL,Xz]at z0 z1 q0 q1;have bt:=Z R2;clear R2;go_wp2_with fail;refine bodyPost_ret (v:= .agg #[(t,l,y),(n,a,o)]) (by simp[results,results274,go_sem,q0,q1];try rfl) rfl ⟨t,y,n,o,?_,?_,?_,?_⟩;·rw[z,T]
   ·have R:=M.oc;rw[z];exact World.ownsRow.farC (World.ownsRow.farC R C Z5 0 _) (C.set 0 _) Z5 1 _
   ·have R:=M.od;rw[T];exact World.ownsRow.farC (World.ownsRow.farC R C Z5 0 _) (C.set 0 _) Z5 1 _
   ·exact(O.setCell (p:=(⟨w.heap.size+1,0,none⟩:U3)) (by show w.heap.size≤w.heap.size+1;omega) _).setCell (p:=(⟨w.heap.size+1,1,none⟩:U3)) (by show w.heap.size≤w.heap.size+1;omega) _
def ZjY (w:U1) (S:Zk) (a:List Zt) (e:Ending) (b:U1):Prop:=
 ∃z:Int,e=.returned (.int .i64 z)∧Below w.heap.size w b∧((z= -1∧Z7A a S)∨∃i:Nat,i<a.length∧z=(i:Int)∧(S.opn (a.getD i default).cols).length=1)
theorem Zgl (S:Zk)(aa N P Q R:Nat)(vs:Z_)(B:Nat)(A:X_)(n c:Nat)(ps:List (U2×U2))(a:List Zt)(w:U1)(T:Row w P 348 [(A,n,c),(Q,N,N),(R,N,N)])
  (ab:KV aa N w Q R vs S) (h:Z1A w B A n ps a) (U:B≤w) (hc:∀q∈a,∀c∈q.cols,0≤c∧c<(N:Int)) (hN:N≤64) (hn:n≤1048576) (f:∀q∈a,q.cols.length≤1048576):
  Calls prog 328 #[(P,())] w (ZjY w S a):=by
 have V:=T;have ac:=ab;have H:=h;have HC:=Z hc;have ad:=Z f;have r:=Z h.len;have p0:=T.cell 0;simp only[ZE]at p0;go_enter func328,ntmps328;go_wp2;go_loopw [13] (fun i wr=>∃k:Nat,k≤n∧i=.int .i64 (k:Int)∧Below w w wr∧Hid (∀j,j<k→(S.opn (a.getD j default).cols).length≠1)) (fun i _=>n-(intOf i).toNat)
 ·exact⟨0,ZY _,rfl,Z8 _ _,Z (fun j W=>absurd W Y)⟩
 ·obtain⟨k,hk,rfl,g,HK⟩:=hrel;have a0:=g.size;by_cases t:k<n
  ·have ae:=H.below (g.mono U);obtain⟨bb,o,v,y,z,C,rfl,ao,e0,e1,h1,h2,D,h4,h5,h6⟩:=ae.get t;have a1:a.getD k default∈a:=(by rw[Z6,Z7 (r ▸ t)];exact Zp _);have a2:=HC _ a1;have a3:=ad _ a1;obtain⟨q,l⟩:=Zb (a.getD k default);rw[l]at e0 e1 h1 D h4 h6 a2 a3;have HQ:=Z l;have af:=Z a2;obtain⟨b,f⟩:=Zb q.cols.length;obtain⟨E,ag⟩:=Zb q.data.length;rw[f]at e0 h1 D a3;rw[ag]at e1 h4;have d:=Z f;have F:=Row.new wr 281 #[(v,b,y),(z,E,C)];have a4:Below wr wr (wr.alloc (.cells #[(v,b,y),(z,E,C)] 281)):=(Z8 _ _).alloc (Z4 _) _;have x0:=Z9 F 0;have H3:=D.below (a4.mono (Zj U a0));have p:=g.trans (a4.mono a0);have ah:=V.below p V.lt;have p1:=Z9 ah 1;have ai:=ac.below p;go_wp2_with fail;generalize wr.alloc (.cells #[(v,b,y),(z,E,C)] 281)=wx at*;go_loopw [5,21] (fun s i w3=>∃j m:Nat,j≤b∧m≤j∧i=.int .i64 (j:Int)∧s=.int .i64 (m:Int)∧w3=wx∧Hid ((S.opn (q.cols.take j)).length=m)) (fun _ i _=>b-(intOf i).toNat)
   ·exact⟨0,0,ZY _,Z4 _,rfl,rfl,rfl,Z (by simp[Zk.opn])⟩
   ·obtain⟨j,m,W,hm,rfl,rfl,rfl,G⟩:=hrel;by_cases e:j<b
    ·obtain⟨b3,o3,rfl,ap,aj⟩:=H3.get e (Z1i q.cols j (d ▸ e));have ak:q.cols.getD j 0∈q.cols:=(by rw[Z6,Z7 (d ▸ e)];exact Zp _);obtain⟨I,a5⟩:=af _ ak;have a6:=Z7N (S:=S) (cols:=q.cols) (k:=j) (d ▸ e);have a7:=Z8e (S:=S) (cols:=q.cols) (k:=j) (d ▸ e);obtain⟨x,F⟩:=Zb (q.cols.getD j 0);rw[F]at aj I a5 a6 a7;obtain⟨x',rfl⟩:=Z3I I;have al:=Z a6;have am:=Z a7;have J:=ai.cellk I a5;rw[ZL]at J;have aq:x'<N:=Y;cases hkn:S.kn (x':Int) with
     |false=>
      rw[hkn]at J;have L:=al hkn;have M:=Z L;go_wp2;go_roundw;·exact⟨j+1,m+1,Y,Y,Zg,Zg,by first|rfl|trivial,Z (by rw[M,Zw,G];rfl)⟩
      ·exact Zh
     |true=>
      rw[hkn]at J;have L:=am hkn;have M:=Z L;go_wp2;go_roundw;·exact⟨j+1,m,Y,Y,Zg,rfl,by first|rfl|trivial,Z (by rw[M,G])⟩
      ·exact Zh
    ·obtain rfl:j=b:=Y;have an:(S.opn q.cols).length=m:=(by have:=G.out;rwa [show q.cols.take j=q.cols by rw[←d,Xm]]at this);have a8:=Z an;by_cases a9:m=1;·subst a9;go_wp2;go_ret;exact⟨(k:Int),rfl,p,.inr ⟨k,by rw[r];exact t,rfl,by rw[HQ];exact a8⟩⟩
     ·have ar:((m:Int)==1)=false:=Zx;go_wp2;go_roundw
      ·exact⟨k+1,Y,Zg,p,Z (fun i O=>by
       rcases Yf i k with h9|h9;·exact HK i h9
       ·obtain rfl:i=k:=Y;rw[HQ,a8];exact a9)⟩
      ·exact Zh
  ·obtain rfl:k=n:=Y;go_wp2;go_ret;exact⟨-1,rfl,g,.inl ⟨rfl,fun q l=>by obtain⟨i,O,rfl⟩:=ZZ l;have:=HK i (r ▸ O);rwa [Z6,Z7 O]at this⟩⟩
theorem Zby {P:Program}{a:Act}{Q:Exit→V_}{X:Code}(l:Nat)(J:V_)(μ:Act→U1→Nat)(f:J a w)
  (d:∀a w,J a w→X.wp P (Exit.jump l (fun b c=>J b c∧μ b c<μ a w) Q) a w):(Code.scope ((Code.label l).seq X)).wp P Q a w:=by
 refine wp_scope_jumps (rest:=Code.skip.seq X) l J μ (by simp[findLabel]) ?_ (fun a w h=>wp_seq (wp_skip (d a w h)));refine wp_seq (wp_label ?_);refine wp_mono (d a w f) fun e b c h=>?_;cases e <;> first|exact h|exact⟨h.1,h.2.1⟩
def isF:U2→Bool| .bool false=>true|_=>false
def cntF (a:Nat) (w:U1):Nat:=match w.heap[a]? with|some (.cells cs _ _)=>cs.toList.countP isF|_=>0
theorem Zab {a:List Bool}(h:Row w n t (a.map Value.bool)):cntF n w=a.countP (fun b=> !b):=by unfold cntF;rw[h];simp only[Z2T,List.countP_map];congr 1;funext b;cases b <;> rfl
theorem Z96:∀(a:List Bool) (i:Nat),i<a.length→a.getD i true=false→(a.set i true).countP (fun b=> !b)<a.countP (fun b=> !b)
 | [],i,h,_=>absurd h Ze
 |k::a,0,_,h=>by simp at h;subst h;simp
 |k::a,i+1,h,h2=>by simp only[Xz,List.countP_cons];have:=Z96 a i (by simpa using h) (by simpa using h2);omega
theorem Z45 (h:n≠k)(v:U2):(w.setCell (n,m) v).cell? (k,i)=w.cell? (k,i):=World.cell?_setCell_other _ _ _ _ (by intro e;injection e with a b;first|exact h a|exact h a.symm)
theorem Zk0 {S:Zk}(h:KV n m w k i l S)(c:j<m)(v:U2)(d:Y_):∀a,a<m→(S.put j d).known.getD a false=false→(l.set j v).getD a undef=.slice none 0 0:=fun a f g=>by
 have b:(S.known.set j true).getD a false=false:=g;rw[Z3g (h.kl ▸ c)]at b;rw[Z3g (h.vl ▸ c)];by_cases e:a=j;·rw[if_pos e]at b;cases b
 ·rw[if_neg e]at b ⊢;exact h.nl a f b
theorem KV.put_ {a N:Nat}{w:U1}{b c:Nat}{g:Z_}{S:Zk}{x:Nat}{v:U2}{d:Y_}(h:KV a N w b c g S)(m:b≠c)(j:x<N)(q:OB a w v d):
  KV a N ((w.setCell (b,x) (.bool true)).setCell (c,x) v) b c (g.set x v) (S.put x d):=by
 have r:=h.k.set x (.bool true);have n:=h.v.far (p:=(b,x)) (fun e=>m e.symm) (.bool true);have o:∀(u:U2) (l:Y_),OB a w u l→OB a ((w.setCell (b,x) (.bool true)).setCell (c,x) v) u l:=fun u l s=>
  World.ownsRow.farC (World.ownsRow.farC s h.k Z5 x _) n Z5 x _
 refine⟨?_,n.set x v,by simp[Zk.put,h.kl],by simp[h.vl],by simp[Zk.put,h.sl],fun i t=>?_,h.gek,h.gev,Zk0 h j v d⟩;·have:=r.far (p:=(c,x)) m v;rw[show S.put (x:Int) d=⟨S.known.set x true,S.vals.set x d⟩ from rfl];simp only;rwa [XZ]
 ·show OB a _ ((g.set x v).getD i undef) ((S.vals.set x d).getD i []);rw[Z3g (h.vl ▸ j),Z3g (h.sl ▸ j)];by_cases f:i=x;·rw[if_pos f,if_pos f];exact o _ _ q
  ·rw[if_neg f,if_neg f];exact o _ _ (h.at_ i t)
structure PS (base N:Nat) (w0 w:World) (gp gk gv n c:Nat) (A:Option Addr) (rows:List Zt) (vs:List Value) (S:Zk):Prop where
 r:Reach N rows S
 kv:KV base N w gk gv vs S
 p:Row w gp 348 [.slice A n c,.slice (some ⟨gk,0,none⟩) N N,.slice (some ⟨gv,0,none⟩) N N]
 be:Below base w0 w
theorem PS.below {base N:Nat}{b w w':U1}{d e f n c:Nat}{A:X_}{g:List Zt}{i:Z_}{S:Zk}(h:PS base N b w d e f n c A g i S)(a:Below w w w')(j:base≤w):PS base N b w' d e f n c A g i S:=
 ⟨h.r,h.kv.below a,h.p.below a h.p.lt,h.be.trans (a.mono j)⟩
def Zkh (d N:Nat) (f:U1) (g h i n c:Nat) (A:X_) (a:List Zt) (w:U1) (e:Ending) (b:U1):Prop:=
 e=.returned (.tuple #[])∧(∃j T,Z7A a T∧PS d N f b g h i n c A a j T)∧w.heap.size≤b.heap.size
def Zk6 (e N:Nat) (b:U1) (d f g n c:Nat) (A:X_) (h:List Zt) (a:Act) (w:U1):Prop:=
 ∃u1 u2 u3 u4 u5 u6 u7 u8 u9 u10 u11 u12 u13 u14 u15 u16 u17 u18 u19 u20 u21 u22 u23 u24 u25 u26 u27 u28 u29 u30 u31 u32 u33 u34 u35 u36:U2,a={ tmps:= #[.pointer (some ⟨d,0,none⟩),u1,u2,u3,u4,u5,u6,u7,u8,u9,u10,u11,u12,u13,u14,u15,u16,u17,u18,u19,u20,u21,u22,u23,u24,u25,u26,u27,u28,u29,u30,u31,u32,u33,u34,u35,u36],defers:= []}∧(∃i S,PS e N b w d f g n c A h i S)∧b.heap.size≤w.heap.size
theorem Zje (S:Zk)(D m N l j s:Nat)(I:Z_)(B:Nat)(A:X_)(n c:Nat)(ps:List (U2×U2))(C:List Zt)(w:U1)(hp:PS m N w w l j s n c A C I S)
  (h:Z1A w B A n ps C) (hB:B≤m) (aI:m≤w) (hr:Right N D C) (hN:N≤64) (hn:n≤1048576) (L:∀q∈C,q.cols.length≤1048576) (hD:D≤1048576) (aq:j≠s) (a4:l≠j) (ar:l≠s) (aJ:m≤l):
  Calls prog 273 #[(l,())] w (Zkh m N w l j s n c A C w):=by
 have H:=h;have HR:=hr;have ae:=Z L;have HL:=Z h.len;have HP:=hp;clear h hr L hp;go_enter func273,ntmps273;go_wp2_with fail;refine Zby 0 (Zk6 m N w l j s n c A C) (fun _ w=>cntF j w) ?_ ?_;·exact⟨_,_,_,_,_,_,_,_,_,_,_,_,_,_,_,_,_,_,_,_,_,_,_,_,_,_,_,_,_,_,_,_,_,_,_,_,rfl,⟨I,S,HP⟩,Z4 _⟩
 clear HP;rintro a wo ⟨u1,u2,u3,u4,u5,u6,u7,u8,u9,u10,u11,u12,u13,u14,u15,u16,u17,u18,u19,u20,u21,u22,u23,u24,u25,u26,u27,u28,u29,u30,u31,u32,u33,u34,u35,u36,rfl,⟨I,S,E⟩,aK⟩;have af:m≤wo:=Y;have HC:=Z (fun q W=>HR.rng q W);have ag:=H.below (E.be.mono hB);go_wp2_with fail;refine(Zgl S m N l j s I B A n c ps C _ E.p E.kv ag Y HC hN hn ae).mono ?_;rintro e w1 ⟨z,rfl,b1,hz⟩;have aL:=b1.size;rcases hz with ⟨rfl,HF⟩|⟨i,hi,rfl,a5⟩;·skip;skip;go_wp2_with fail;simp only[Exit.jump];refine bodyPost_ret (results_none rfl _ _ _) rfl ?_;exact⟨rfl,⟨I,S,HF,E.below b1 af⟩,Y⟩
 ·have T:=E.below b1 af;have ah:=ag.below (b1.mono (by omega:B≤wo));have av:i<n:=by rw[←HL];exact hi
  obtain⟨bb,o,A1,c1,A2,c2,rfl,aM,e0,e1,h1,h2,h3,h4,h5,h6⟩:=ah.get av;have M:C.getD i default∈C:=by rw[Z6,Z7 hi];exact Zp _
  have a6:=HC _ M;have a7:=ae _ M;have a0:=HR.len _ M;obtain⟨q,W⟩:=Zb (C.getD i default);rw[W]at e0 e1 h1 h3 h4 h6 a6 a7 a0 a5 M;obtain⟨nc,L⟩:=Zb q.cols.length;obtain⟨G,a1⟩:=Zb q.data.length;rw[L]at e0 h1 h3 a7;rw[a1]at e1 h4 h6;have aw:=E.r.form HR;have p0:=T.p.cell 0;simp only[ZE]at p0;have ax:G=D:=by rw[←a1];exact a0
  have ai:=Z a6;have a8:=Z a5;have ay:=Z M;have H3:=Z h3;have H6:=Z h6;have az:=Z L;have U:=Z a1;have aj:=Z a0;have aO:(0:Int)≤(i:Int):=Y;have aP:(i:Int)<(n:Int):=Y;clear ah W a6 a5 M h3 h6 L a1 a0 ax;go_wp2_with fail;refine(Z9Y q S m N l j s I (.slice (some ⟨bb,o,none⟩) n c) B A1 A2 c1 c2 nc G _ T.p T.kv H3 H6 az U Y ai hN (fun c h0 hk=>by rw[aw.len c h0 hk,←aj,U]) (by rw[←U,aj];exact hD) a7).mono ?_;rintro e F ⟨ak,J,O,P,rfl,Q,a9,b2⟩;rw[a8]at Q;rw[U]at a9;rw[a8,U];have aQ:=b2.size;obtain⟨x,R⟩:∃x:Nat,S.opn q.cols=[(x:Int)]∧x<N:=by
   have f:=a8.out;match hl:S.opn q.cols with
   | [y]=>have hm:=(Z3y.1 (show y∈S.opn q.cols by rw[hl];exact Yn.2 rfl)).1;obtain⟨h7,h8⟩:=ai y hm;obtain⟨x,rfl⟩:=Z3I h7;exact⟨x,rfl,Y⟩
   | []=>rw[hl]at f;simp at f
   |_::_::_=>rw[hl]at f;simp at f
  obtain⟨R,aa⟩:=R;rw[R]at Q;have ab:=T.below b2 Y;obtain⟨t,rfl⟩:∃t,ak=some ⟨t,0,none⟩:=by
   rcases Z2E (show F.ownsRow _ _ _ (ak,1,J) 1 _ from Q) with ⟨_,f,_⟩|⟨g,f,_⟩;·omega
   ·exact⟨g,f⟩
  have dc:j≠t:=fun e=>by
   rcases own_ne (show F.ownsRow _ 3 _ (t,1,J) 1 _ from Q) ab.kv.k Z5 with f|f;·cases f
   ·exact f (by rw[e];rfl)
  have al:=(Sl.own (show F.ownsRow _ _ _ (t,1,J) 1 _ from Q));obtain⟨bq,oq,ac,aB,am⟩:=al.at_ Y;injection ac with ac;injection ac with aC aD;subst aC aD;have n2:=am 0 (x:Int) rfl;have ad:=Row.new F 281 #[(t,1,J),(O,G,P)];have a2:Below F F (F.alloc (.cells #[(t,1,J),(O,G,P)] 281)):=(Z8 _ _).alloc (Z4 _) _;have aE:=(a2.cell (p:=t) aB).trans n2;have b:=ab.below a2 Y;have aF:OB m _ (O,G,P) (S.rest q):=ZA ((a9:OB _ _ _ _).below a2) Y;have aG:=Reach.step b.r ay R;have HX:=Z R;clear ab R Q a9 al am n2 p0 e0 e1;go_wp2_with fail;obtain⟨g3,a3⟩:=Zb F.heap.size;have aH:=Z a3;rw[a3]at ad;try simp only[a3]
  generalize F.alloc (.cells #[(t,1,J),(O,G,P)] 281)=wx at*;clear a3;have m1:=Z9 b.p 1;have m2:=Z9 b.p 2;have n0:=Z9 ad 0;have n1:=Z9 ad 1;have an:(0:Int)≤(x:Int):=Y;have ao:(x:Int)<(N:Int):=Y;have kf:=b.kv.k.frozen x;have kc:=b.kv.cellk an ao;have vf:=b.kv.v.frozen x;obtain⟨Av,mv,vc,_⟩:=b.kv.cellv an ao;rw[ZL]at kc vc;have d3:j≠g3:=fun e=>by have f:=T.below b2 Y;have h8:=f.kv.k.lt;have h7:=aH.out;omega
  refine oS [21] (fun V=>V.cell? ⟨l,1,none⟩=some (.slice (some ⟨j,0,none⟩) N N)∧V.cell? ⟨l,2,none⟩=some (.slice (some ⟨s,0,none⟩) N N)∧V.cell? ⟨g3,0,none⟩=some (.slice (some ⟨t,0,none⟩) 1 J)∧V.cell? ⟨g3,1,none⟩=some (.slice O G P)∧V.cell? ⟨t,0,none⟩=some (.int .i64 (x:Int))) [0,1,2,3,4,5,6,7,8,9,10,11,12,13,14,15,16,17,18,19,20,21] (⟨m1,m2,n0,n1,aE⟩) fun hS=>?_;iterate 19 refine oV ?_
  refine oG fun K hK=>?_;go_simp;refine oK hK ⟨(Z45 (Ne.symm a4) _).trans hS.1,(Z45 (Ne.symm a4) _).trans hS.2.1,(Z45 d3 _).trans hS.2.2.1,(Z45 d3 _).trans hS.2.2.2.1,(Z45 dc _).trans hS.2.2.2.2⟩ fun hS=>?_;refine oV ?_;refine oM 21 fun K hK=>?_;go_simp;refine oL hK ?_;refine oD ?_;go_wp2_with fail;go_step3
  have ap:=(show KV m N wx.drew j s I S from⟨b.kv.k,b.kv.v,b.kv.kl,b.kv.vl,b.kv.sl,b.kv.at_,b.kv.gek,b.kv.gev,b.kv.nl⟩).put_ (x:=x) (v:= .slice O G P) (d:=S.rest q) aq aa aF;refine⟨rfl,⟨_,_,_,_,_,_,_,_,_,_,_,_,_,_,_,_,_,_,_,_,_,_,_,_,_,_,_,_,_,_,_,_,_,_,_,_,rfl,⟨_,_,aG,ap,((show Row wx.drew l _ _ from b.p).far (p:=(j,x)) a4 _).far (p:=(s,x)) ar _,((Z1d b.be).setCell (p:=(⟨j,x,none⟩:U3)) b.kv.gek _).setCell (p:=(⟨s,x,none⟩:U3)) b.kv.gev _⟩,?_⟩,?_⟩;·have f:=a2.size;simp[World.setCell];omega
  ·show cntF j _<cntF j _;rw[Zab E.kv.k];refine Nat.lt_of_le_of_lt (Nat.le_of_eq (Zab ap.k)) ?_;refine Z96 S.known x (by rw[E.kv.kl];exact aa) ?_;have f:=(Z3y.1 (show(x:Int)∈S.opn q.cols by rw[HX];exact Yn.2 rfl)).2;unfold Zk.kn at f;rw[ZL]at f;rw[Z6,Z7 (by rw[E.kv.kl];exact aa)]at f ⊢;exact f
theorem Z0g {j k l m o:U2}(h:Row w n t [x,y,V,j,k,l,m,o])(a b c d e f g i:U2):
  ∃wz,(((((((w.setCell n a).setCell (n,1) b).setCell (n,2) c).setCell (n,3) d).setCell (n,4) e).setCell (n,5) f).setCell (n,6) g).setCell (n,7) i=wz∧Row wz n t [a,b,c,d,e,f,g,i]∧Only (fun q=>q=n) w wz:=
 ⟨_,rfl,(((((((h.set 0 a).set 1 b).set 2 c).set 3 d).set 4 e).set 5 f).set 6 g).set 7 i,((((((((Only.refl (fun q=>q=n) w).set rfl 0 a).set rfl 1 b).set rfl 2 c).set rfl 3 d).set rfl 4 e).set rfl 5 f).set rfl 6 g).set rfl 7 i⟩
section
open Go.Shelf
def ZbO:Go.Shelf.Ren:=⟨fun|316=>158|n=>n,fun|9=>9|3=>3|4=>4|37=>32|0=>0|127=>302|5=>5|n=>n,fun|n=>n⟩
theorem ZhP:Go.Proofs.LaysM.n316 prog ZbO:={
 mixed:=Zi
 f316:=func158.trans (congrArg some Zi)
 t0:=underlying0
 a0:=isAgg0
 z0:=sizeOf0
 v0:=zeroValue0
 t3:=underlying3
 a3:=isAgg3
 z3:=sizeOf3
 v3:=zeroValue3
 t4:=underlying4
 a4:=isAgg4
 z4:=sizeOf4
 v4:=zeroValue4
 t9:=underlying9
 a9:=isAgg9
 z9:=sizeOf9
 v9:=zeroValue9
 t37:=underlying32
 a37:=isAgg32
 z37:=sizeOf32
 v37:=zeroValue32
 t127:=underlying302
 a127:=isAgg302
 z127:=sizeOf302
 v127:=zeroValue302
 t5:=underlying5
 a5:=isAgg5
 z5:=sizeOf5
 v5:=zeroValue5
 i0:=Zi
 i3:=Zi
 i4:=Zi
 i5:=Zi
 i9:=Zi
 i37:=Zi
 i127:=by kernel_rfl}
end
theorem Z1I:(prog.info? 41).map (fun i=>(i.zero,i.size,i.bytes))=some (some (.agg #[Nat,(),(),Nat,Nat,Nat,(),Nat]),8,112):=Zi
