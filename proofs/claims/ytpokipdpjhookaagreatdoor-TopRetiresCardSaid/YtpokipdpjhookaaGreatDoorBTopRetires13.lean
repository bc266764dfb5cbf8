/- ManiMath PackMath Mani1 Mani2 Rec PeelA DelKit DelI RiseMath -/
import Derived.Test.YtpokipdpjhookaaGreatDoorBTopRetires06
import Derived.Test.YtpokipdpjhookaaGreatDoorBTopRetires09
set_option maxHeartbeats 8000000
set_option maxRecDepth 20000
set_option linter.all false
namespace Go.Proofs
open Go Go.RowKit Tryz
variable {c:Int} {s:List Int} {r:List Byte} {n m k i:Nat} {t:TypeId} {w v:World} {l L:List Value}
section
structure Zr where
 name:Y_
 obj:Int
 len:Int
 tries:W_
deriving DecidableEq
instance:Inhabited Zr:=⟨⟨[],0,0, []⟩⟩
structure Zd where
 seq:Int
 next:Int
 P:Zf
 extra:Int
 drives:W_
 objs:List Zr
deriving DecidableEq
def Zn (l:Y_):ByteArray:=⟨(l.map UInt8.ofBitVec).toArray⟩
def Zb0 (s:ByteArray):Y_:=s.data.toList.map UInt8.toBitVec
theorem Z7U (l:Y_):Zb0 (Zn l)=l:=by
 unfold Zn Zb0;simp only[WS];have:(UInt8.toBitVec ∘ UInt8.ofBitVec)=id:=by funext x;rfl
 rw[this,List.map_id]
theorem Zgw {a b:Y_}(h:Zn a=Zn b):a=b:=by rw[←Z7U a,h,Z7U]
theorem Z6l (l:Y_):(Zn l).size=l.length:=by unfold Zn;show(l.map UInt8.ofBitVec).toArray.size=_;simp
theorem Zhn (l:Y_)(k:Nat)(h:k<(Zn l).size):(((Zn l)[k]'h).toNat:Int)=((l.getD k 0).toNat:Int):=by
 have a:k<l.length:=by rw[Z6l]at h;exact h
 have:(Zn l)[k]'h=UInt8.ofBitVec (l.getD k 0):=by rw[Z6,Z7 a];show(l.map UInt8.ofBitVec).toArray[k]'(by simpa using a)=_;simp
 rw[this];rfl
def Zr.cells (e:Zr) (a:U2):Z_:= [.string (Zn e.name),iv e.obj,iv e.len,a]
def Zr.val (e:Zr) (a:U2):U2:= .agg #[.string (Zn e.name),.int .i64 e.obj,.int .i64 e.len,a]
def Zd.val (m:Zd) (a b:U2):U2:= .agg #[.int .i64 m.seq,.int .i64 m.next,.int .i64 m.P.K,.int .i64 m.P.H,.int .i64 m.P.S,.int .i64 m.extra,a,b]
def Zd.cells (m:Zd) (a b:U2):Z_:= [.int .i64 m.seq,.int .i64 m.next,.int .i64 m.P.K,.int .i64 m.P.H,.int .i64 m.P.S,.int .i64 m.extra,a,b]
def Z1S (c:Byte):Bool:=decide ((97≤c.toNat∧c.toNat≤122)∨(48≤c.toNat∧c.toNat≤57)∨c.toNat=45)
def Z0l (s:Y_):Bool:=s.all Z1S && decide (1≤s.length∧s.length≤12)
def Xh (a b:Y_):Bool:=Op.bytesLess (Zn a).toList (Zn b).toList
def Z0W (l:W_) (a:Int) (i:Nat):Bool:=decide (0≤l.getD i 0∧l.getD i 0≤a) && (decide (i=0) ||decide (l.getD (i-1) 0<l.getD i 0))
def VR (l:W_) (a:Int):Bool:=(List.range l.length).all (Z0W l a)
def Z0k (l:W_):Bool:=l.all fun z=>decide (0≤z∧z≤15)
def V6 (m:Zd) (x:Zr):Bool:=
 Z0l x.name && (decide (0≤x.obj∧x.obj≤m.next-1) && (decide (0≤x.len∧x.len≤m.P.K*m.P.S*8) && (Z0k x.tries && decide ((x.tries.length:Int)=countP m.P x.len))))
def VQ (m:Zd) (i:Nat):Zr:=m.objs.getD i default
def Z0G (m:Zd) (i:Nat):Bool:=
 V6 m (VQ m i) && ((decide (i=0) ||Xh (VQ m (i-1)).name (VQ m i).name) && (m.objs.take i).all fun y=> !decide (y.obj=(VQ m i).obj))
def preB (m:Zd):Bool:=decide (1≤m.seq∧m.seq≤2147483647) && (decide (0≤m.next∧m.next≤16777216) && (m.P.may && (decide (0≤m.extra∧m.extra≤16))))
def Zd.may (m:Zd):Bool:=preB m && (VR m.drives 63 && (decide (m.objs.length≤12) && (List.range m.objs.length).all (Z0G m)))
theorem Z36 {f:Nat→Bool}{n k:Nat}(a:k<n)(h:f k=false):(List.range n).all f=false:=by rw[List.all_eq_false];exact⟨k,Ws.2 a,by simp[h]⟩
theorem Z5L {f:Nat→Bool}{n:Nat}(h:∀k,k<n→f k=true):(List.range n).all f=true:=by rw[Wq];intro k a;exact h k (Ws.1 a)
theorem Z3O {f:Nat→Bool}{n k:Nat}(h:(List.range n).all f=true)(a:k<n):f k=true:=by rw[Wq]at h;exact h k (Ws.2 a)
def i64 (z:Int):Prop:= -9223372036854775808≤z∧z≤9223372036854775807
structure M64 (m:Zd):Prop where
 seq:i64 m.seq
 next:i64 m.next
 K:i64 m.P.K
 H:i64 m.P.H
 S:i64 m.P.S
 extra:i64 m.extra
 drives:∀z∈m.drives,i64 z
 objs:∀e∈m.objs,i64 e.obj∧i64 e.len∧∀z∈e.tries,i64 z
def YJ:List Zr→Z_→Z_
 |e::es,t::ts=>e.cells t++YJ es ts
 |_,_=> []
theorem Z6_:∀(es:List Zr) (ts:Z_) (i:Nat),es.length=ts.length→i<es.length→∀j,j<4→(YJ es ts)[i*4+j]? =((es.getD i default).cells (ts.getD i undef))[j]?
 |e::es,t::ts,0,_,_,j,hj=>by simp only[YJ,Nat.zero_mul,Wz];rw[Yp (by show j<4;exact hj)];rfl
 |e::es,t::ts,i+1,h,hi,j,hj=>by simp only[YJ];rw[Y7 (by show 4≤_;omega)];show(YJ es ts)[(i+1)*4+j-4]? =_;rw[show(i+1)*4+j-4=i*4+j from Y,Z6_ es ts i (by simpa using h) (by simpa using hi) j hj];rfl
 | [],_,_,_,hi,_,_=>by simp at hi
 |_::_, [],_,h,_,_,_=>by simp at h
theorem Z65 (e:Zr)(t:U2):∀(es:List Zr) (ts:Z_),es.length=ts.length→YJ (es++ [e]) (ts++ [t])=YJ es ts++e.cells t
 | [], [],_=>by simp[YJ]
 |a::es,b::ts,h=>by simp only[Z0L,YJ,Z65 e t es ts (by simpa using h),YH]
 | [],_::_,h=>by simp at h
 |_::_, [],h=>by simp at h
theorem Z8p:∀(es:List Zr) (ts:Z_) (k:Nat),es.length=ts.length→(YJ es ts).take (k*4)=YJ (es.take k) (ts.take k)
 |_,_,0,_=>by simp[YJ]
 | [], [],k+1,_=>by simp[YJ]
 |a::es,b::ts,k+1,h=>by simp only[List.take_succ_cons,YJ];rw[List.take_append,ZP (by show 4≤_;omega)];show _++(YJ es ts).take ((k+1)*4-4)=_;rw[show(k+1)*4-4=k*4 from Y,Z8p es ts k (by simpa using h)]
 | [],_::_,_,h=>by simp at h
 |_::_, [],_,h=>by simp at h
structure V8 (w:World) (B:Nat) (A:Option Addr) (n:Nat) (ts:List Value) (es:List Zr):Prop where
 sl:Sl w B 4 A n (YJ es ts)
 len:es.length=n
 tlen:ts.length=n
 at_:∀i,i<n→∃A' c,ts.getD i undef=.slice A' (es.getD i default).tries.length c∧(es.getD i default).tries.length≤c∧c≤9223372036854775807∧Sl w B 1 A' (es.getD i default).tries.length ((es.getD i default).tries.map iv)
section
variable {w w':U1} {B B' n:Nat} {A:X_} {ts:Z_} {es:List Zr}
theorem V8.below (h:V8 w B A n ts es)(a:Below B w w'):V8 w' B A n ts es:=
 ⟨h.sl.below a,h.len,h.tlen,fun i b=>by obtain⟨d,c,e,f,g,j⟩:=h.at_ i b;exact⟨d,c,e,f,g,j.below a⟩⟩
theorem V8.mono (h:V8 w B A n ts es)(a:B≤B'):V8 w B' A n ts es:=
 ⟨h.sl.mono a,h.len,h.tlen,fun i b=>by obtain⟨d,c,e,f,g,j⟩:=h.at_ i b;exact⟨d,c,e,f,g,j.mono a⟩⟩
theorem V8.take (h:V8 w B A n ts es){k:Nat}(b:k≤n):V8 w B A k (ts.take k) (es.take k):=by
 refine⟨?_,by rw[ZK,h.len];omega,by rw[ZK,h.tlen];omega,fun i a=>?_⟩;·have:=h.sl.take b;rwa [Z8p es ts k (by rw[h.len,h.tlen])]at this
 ·have:=h.at_ i Y;rw[Z6,Z6,VW a,VW a,←Z6,←Z6];exact this
theorem V8.get (h:V8 w B A n ts es){k:Nat}(g:k<n):
  ∃b o a c,A=some ⟨b,o,none⟩∧b<B∧w.cell? (b,o+k*4)=some (.string (Zn (es.getD k default).name))∧w.cell? (b,o+k*4+1)=some (.int .i64 (es.getD k default).obj)∧w.cell? (b,o+k*4+2)=some (.int .i64 (es.getD k default).len)∧
   w.cell? (b,o+k*4+3)=some (.slice a (es.getD k default).tries.length c)∧(es.getD k default).tries.length≤c∧c≤9223372036854775807∧Sl w B 1 a (es.getD k default).tries.length ((es.getD k default).tries.map iv):=by
 obtain⟨a,c,e,i,j,l⟩:=h.at_ k g;obtain⟨b,o,m,p,d⟩:=h.sl.at_ Y;have f:=Z6_ es ts k (by rw[h.len,h.tlen]) (h.len ▸ g);refine⟨b,o,a,c,m,p,?_,?_,?_,?_,i,j,l⟩;·exact d _ _ (f 0 Y)
 ·have:=d _ _ (f 1 Y);exact this
 ·have:=d _ _ (f 2 Y);exact this
 ·have:=d _ _ (f 3 Y);rw[show o+k*4+3=o+(k*4+3) from Y,this,e]
end
structure RM (w:World) (B:Nat) (m:Zd) (Ad:Option Addr) (nd cd:Nat) (Ao:Option Addr) (no co:Nat) (ts:List Value):Prop where
 d:Sl w B 1 Ad nd (m.drives.map iv)
 dl:m.drives.length=nd
 dc:nd≤cd∧cd≤9223372036854775807
 o:V8 w B Ao no ts m.objs
 oc:no≤co∧co≤9223372036854775807
theorem RM.below {w w':U1}{B:Nat}{m:Zd}{a b:X_}{c e no f:Nat}{ts:Z_}(h:RM w B m a c e b no f ts)(g:Below B w w'):RM w' B m a c e b no f ts:=⟨h.d.below g,h.dl,h.dc,h.o.below g,h.oc⟩
theorem RM.mono {w:U1}{B B':Nat}{m:Zd}{a b:X_}{c e no f:Nat}{ts:Z_}(h:RM w B m a c e b no f ts)(g:B≤B'):RM w B' m a c e b no f ts:=⟨h.d.mono g,h.dl,h.dc,h.o.mono g,h.oc⟩
def Z01 (w:U1) (g:Nat) (m:Zd) (dv ov:U2):Prop:=
 w.cell? ⟨g,0,none⟩=some (.int .i64 m.seq)∧w.cell? ⟨g,1,none⟩=some (.int .i64 m.next)∧w.cell? ⟨g,2,none⟩=some (.int .i64 m.P.K)∧w.cell? ⟨g,3,none⟩=some (.int .i64 m.P.H)∧w.cell? ⟨g,4,none⟩=some (.int .i64 m.P.S)∧w.cell? ⟨g,5,none⟩=some (.int .i64 m.extra)∧w.cell? ⟨g,6,none⟩=some dv∧w.cell? ⟨g,7,none⟩=some ov
theorem Z01.keep {w w':U1}{g B:Nat}{m:Zd}{a b:U2}(h:Z01 w g m a b)(c:Below B w w')(d:g<B):Z01 w' g m a b:=by obtain⟨e,f,j,l,n,o,q,r⟩:=h;have k:∀i,w'.cell? ⟨g,i,none⟩=w.cell? ⟨g,i,none⟩:=fun i=>c.cell (p:=⟨g,i,none⟩) d;exact⟨(k 0).trans e,(k 1).trans f,(k 2).trans j,(k 3).trans l,(k 4).trans n,(k 5).trans o,(k 6).trans q,(k 7).trans r⟩
theorem Z01.of_row {w:U1}{g:Nat}{t:TypeId}{m:Zd}{dv ov:U2}(h:Row w g t (m.cells dv ov)):Z01 w g m dv ov:=
 ⟨h.cell 0,h.cell 1,h.cell 2,h.cell 3,h.cell 4,h.cell 5,h.cell 6,h.cell 7⟩
abbrev Z1l (t:TypeId) (m:Zd) (dv ov:U2):Obj:= .cells #[.int .i64 m.seq,.int .i64 m.next,.int .i64 m.P.K,.int .i64 m.P.H,.int .i64 m.P.S,.int .i64 m.extra,dv,ov] t
theorem Z01.new (w:U1)(t:TypeId)(m:Zd)(a b:U2):Z01 (w.alloc (Z1l t m a b)) w m a b:= .of_row (Row.new w t _)
end
def b8 (z:Int):Byte:=Yg z 0
theorem Z1J (h:0≤c∧c≤255):Za (b8 c)=.int .u8 c:=by unfold Za b8;rw[Z0c];congr 1;simp;omega
def Vg (e:Zr):BL:= [b8 e.name.length]++e.name++ZN 3 e.obj++ZN 2 e.len++e.tries.map b8
def Z1W (m:Zd):BL:=ZN 4 m.seq++ZN 4 m.next++ [b8 m.P.K,b8 m.P.H,b8 m.P.S,b8 m.extra,b8 m.drives.length]
def Z4q (m:Zd):BL:=Z1W m++m.drives.map b8++ [b8 m.objs.length]++m.objs.flatMap Vg
def pack (m:Zd):BL:=if m.may then Z4q m else []
theorem Zag {l:W_}{k:Nat}(h:k<l.length):(l.take (k+1)).map b8=(l.take k).map b8++ [b8 (l.getD k 0)]:=by rw[ZR h,ZV];simp[h]
theorem ZeT {es:List Zr}{k:Nat}(h:k<es.length):(es.take (k+1)).flatMap Vg=(es.take k).flatMap Vg++Vg (es.getD k default):=by rw[ZR h,Vr];simp[h]
theorem Zak {l:W_}{b:Int}(h:VR l b=true):∀i,i<l.length→(i:Int)≤l.getD i 0
 |0,hi=>by have:=Z3O h hi;unfold Z0W at this;simp only[Xp,decide_eq_true_eq]at this;simpa using this.1.1
 |i+1,hi=>by
  have c:=Zak h i Y;have:=Z3O h hi;unfold Z0W at this;simp only[Xp,Bool.or_eq_true,decide_eq_true_eq]at this;rcases this.2 with a|a;·omega
  ·simp only[Nat.add_sub_cancel]at a;omega
theorem Z4a (h:VR s c=true){i:Nat}(a:i<s.length):0≤s.getD i 0∧s.getD i 0≤c:=by have:=Z3O h a;unfold Z0W at this;simp only[Xp,decide_eq_true_eq]at this;exact this.1
theorem Z6N (h:VR s 63=true):s.length≤64:=by
 rcases VG s.length with a|a;·omega
 ·have b:=Zak h (s.length-1) Y;have c:=Z4a h (i:=s.length-1) Y;omega
structure Z7E (m:Zd):Prop where
 seq:1≤m.seq∧m.seq≤2147483647
 next:0≤m.next∧m.next≤16777216
 P:m.P.may=true
 extra:0≤m.extra∧m.extra≤16
 drives:VR m.drives 63=true
 olen:m.objs.length≤12
 objs:∀i,i<m.objs.length→Z0G m i=true
theorem Yo {m:Zd}(h:m.may=true):Z7E m:=by unfold Zd.may preB at h;simp only[Xp,decide_eq_true_eq]at h;obtain⟨⟨a,b,c,d⟩,e,f,g⟩:=h;exact⟨a,b,c,d,e,f,fun i j=>Z3O g j⟩
theorem Zbl {m:Zd}(h:Z7E m):m.may=true:=by unfold Zd.may preB;simp only[Xp,decide_eq_true_eq];exact⟨⟨h.seq,h.next,h.P,h.extra⟩,h.drives,h.olen,Z5L h.objs⟩
structure Z5H (m:Zd) (e:Zr):Prop where
 name:Z0l e.name=true
 nlen:1≤e.name.length∧e.name.length≤12
 obj:0≤e.obj∧e.obj≤m.next-1
 len:0≤e.len∧e.len≤m.P.K*m.P.S*8
 len2:e.len≤3072
 tries:Z0k e.tries=true
 count:(e.tries.length:Int)=countP m.P e.len
 tlen:e.tries.length≤8
theorem Zbm {m:Zd}{e:Zr}(g:m.P.may=true)(h:V6 m e=true):Z5H m e:=by
 unfold V6 at h;simp only[Xp,decide_eq_true_eq]at h;obtain⟨a,i,b,j,c⟩:=h;have d:=Zf.size_le (Zf.may_ok g);unfold Zf.size at d;obtain⟨q,f⟩:=Zb (m.P.K*m.P.S);have k:1≤e.name.length∧e.name.length≤12:=by unfold Z0l at a;simp only[Xp,decide_eq_true_eq]at a;exact a.2
 have l:e.len≤3072:=by rw[f]at d b;omega
 refine⟨a,k,i,b,l,j,c,?_⟩;unfold countP at c;split at c
 ·rename_i n;have:(e.len-1) / m.P.size<8:=by unfold Zf.size;rw[f]at b d ⊢;exact Int.ediv_lt_of_lt_mul Y Y
  omega
 ·omega
theorem Z7p {m:Zd}(h:Z7E m){i:Nat}(a:i<m.objs.length):Z5H m (m.objs.getD i default):=by have:=h.objs i a;unfold Z0G at this;simp only[Xp]at this;exact Zbm h.P this.1
theorem Zeo {m:Zd}{e:Zr}(h:Z5H m e):(Vg e).length≤26:=by unfold Vg;simp only[Zw,Zz,Z2v,Z05];have:=h.nlen;have:=h.tlen;omega
theorem Z9r (h:Z0k s=true){k:Nat}(a:k<s.length):0≤s.getD k 0∧s.getD k 0≤15:=by unfold Z0k at h;rw[Wq]at h;have:=h (s.getD k 0) (by rw[Z6,Z7 a];exact Zp _);simpa using this
theorem ZbC (l:Y_):Lib.strCells (Zn l)=l.map Za:=by unfold Lib.strCells Zn;simp only[WS];apply Z1O;intro x _;rfl
def Wm (o b t:Int):BitVec 32:=BitVec.ofInt 32 (128*o+16*b+t)
theorem ZhE (o b t:Int):((Wm o b t).toNat:Int)=(128*o+16*b+t) % 4294967296:=by unfold Wm;rw[BitVec.toNat_ofInt];omega
theorem Z1e (n a c:Int)(b:Bool)(w:U1)(d:decide (a≤n∧n≤c)=b):Calls prog 176 #[n,a,c] w fun e f=>e=.returned (.bool b)∧w=f:=by have g:=Z d;go_enter func176,ntmps176;go_wp2_with fail;all_goals (go_ret;exact⟨Xu (by rw[←g];first| (refine decide_eq_decide.2 ?_;omega)| (refine(decide_eq_false ?_).symm;omega)),rfl⟩)
theorem Z3Z (o b t:Int)(w:U1):Calls prog 94 #[o,b,t] w fun e a=>e=.returned (.int .u32 ((Wm o b t).toNat:Int))∧w=a:=by have c:=Z (ZhE o b t);go_enter func94,ntmps94;go_wp2;go_ret;refine⟨YP ?_,rfl⟩;rw[c];omega
theorem ZiP {k:Nat}(a:k<r.length)(h:Z1S (r.getD k 0)=false):Z0l r=false:=by
 unfold Z0l;have:r.all Z1S=false:=by rw[List.all_eq_false];exact⟨r.getD k 0,by rw[Z6,Z7 a];exact Zp _,by rw[h];simp⟩
 rw[this,Bool.false_and]
theorem ZfG {l:Y_}(h:∀k,k<l.length→Z1S (l.getD k 0)=true):Z0l l=decide (1≤l.length∧l.length≤12):=by
 unfold Z0l;have:l.all Z1S=true:=by rw[Wq];intro c b;obtain⟨k,a,rfl⟩:=ZZ b;have:=h k a;rwa [Z6,Z7 a]at this
 rw[this,Bool.true_and]
theorem Z9y (l:Y_)(b:Bool)(w:U1)(Q:l.length≤1048576)(y:Z0l l=b):Calls prog 133 #[.string (Zn l)] w fun e R=>e=.returned (.bool b)∧Below w w R:=by
 have z:=Z y;have A:=Z6l l;have B:=Z (Zhn l);obtain⟨s,C⟩:=Zb (Zn l);rw[C]at A B ⊢;obtain⟨n,D⟩:=Zb s.size;have m:=Z D;have o:=Z (show l.length=n from Y);have a1:n≤1048576:=Y;have a2:s.size≤1048576:=Y;have E:=run_bytes_of_string (P:=prog) w 9 32 5 s underlying9 underlying32 underlying5;obtain⟨a,F⟩:∃c,grownCap w s.size 0 5=c:=⟨_,rfl⟩;rw[F]at E;obtain⟨G,f⟩:=WI (w.drew.alloc (.cells (bytesRow s a) 5 ((bytesRow s a).size,(bytesRow s a).size+1)));rw[←f]at E;have H:Below w w G:=by rw[f];exact((Z8 _ _).drew).alloc (Z4 _) _
 have I:∀k,k<s.size→G.cell? (w.heap.size,k)=some (.int .u8 ((l.getD k 0).toNat:Int)):=fun k p=>by rw[f];rw[←B k p];have:=World.cell?_alloc_mark w.drew (bytesRow s a) 5 ((bytesRow s a).size,(bytesRow s a).size+1) k;refine this.trans ?_;exact bytesRow_at s a k p
 have S:=Z I;clear y C A D Q F f I;go_enter func133,ntmps133;go_wp2;go_loop [8] (fun i=>∃k:Nat,k≤s.size∧i=.int .i64 k∧Hid (∀j,j<k→Z1S (l.getD j 0)=true)) (fun i=>s.size-(intOf i).toNat)
 ·exact⟨0,ZY _,rfl,Z (fun j d=>absurd d Y)⟩
 ·obtain⟨k,p,rfl,g⟩:=hrel;by_cases T:k<s.size
  ·have U:=S k T;have V:=(l.getD k 0).isLt;obtain⟨x,q⟩:∃x:Nat,(l.getD k 0).toNat=x:=⟨_,rfl⟩;have J:=Z q;rw[q]at U V;clear q;by_cases r:(97≤x∧x≤122)∨(48≤x∧x≤57)∨x=45
   ·have L:Z1S (l.getD k 0)=true:=(by unfold Z1S;rw[J];exact decide_eq_true r);have t:=Z L;clear L;rcases r with ⟨v,W⟩|⟨v,W⟩|v
    ·have M:¬(x:Int)<97:=Y;have x2:¬122<(x:Int):=Y;go_wp2_with fail;all_goals
      go_round
      ·exact⟨k+1,Y,Zg,Z (fun j d=>by
       rcases Yf j k with h|h;·exact g j h
       ·obtain rfl:j=k:=Y;exact t)⟩
      ·exact Zh
    ·have M:¬(x:Int)<48:=Y;have x2:¬57<(x:Int):=Y;have x3:(x:Int)<97:=Y;go_wp2_with fail;all_goals
      go_round
      ·exact⟨k+1,Y,Zg,Z (fun j d=>by
       rcases Yf j k with h|h;·exact g j h
       ·obtain rfl:j=k:=Y;exact t)⟩
      ·exact Zh
    ·subst v;go_wp2_with fail;all_goals
      go_round
      ·exact⟨k+1,Y,Zg,Z (fun j d=>by
       rcases Yf j k with h|h;·exact g j h
       ·obtain rfl:j=k:=Y;exact t)⟩
      ·exact Zh
   ·have N:Z0l l=false:=ZiP (k:=k) (by rw[o];have:=m.out;omega) (by unfold Z1S;rw[J];exact decide_eq_false r);have a0:b=false:=(by rw[←z,N]);subst a0;have M:((x:Int) !=45)=true:=Zx;clear N;go_wp2_with fail;all_goals first| (exfalso;omega)| (go_ret;exact⟨rfl,H⟩)
  ·have a3:k=n:=Zc m.out;have O:=ZfG (l:=l) (fun j d=>g j (by rw[o]at d;omega));have HY:=Z O;have a4:=m.out;clear O;go_wp2_with fail;all_goals (go_ret;exact⟨Xu (by rw[←z,HY,o];first| (refine decide_eq_decide.2 ?_;omega)| (refine(decide_eq_false ?_).symm;omega)),H⟩)
theorem Z4e (l:W_)(k:Nat)(h:k<l.length):(l.map iv)[k]? =some (.int .i64 (l.getD k 0)):=by rw[ZO,Z7 h];simp[h,iv]
theorem ZfB (B:Nat)(A:X_)(l:W_)(n c:Nat)(a:Int)(b:Bool)(w:U1)(h:Sl w B 1 A n (l.map iv))(W:n≤9223372036854775807)(G:VR l a=b):
  Calls prog 177 #[(A,n,c),a] w fun e O=>e=.returned (.bool b)∧∃d,O=w.drewN d:=by
 have p:=Z (show l.length=n by have:=h.len;simpa using this);have z:=Z G;clear G;go_enter func177,ntmps177;go_wp2;go_loopw [9] (fun i wr=>∃k d:Nat,k≤n∧i=.int .i64 k∧wr=w.drewN d∧Hid (∀j,j<k→Z0W l a j=true)) (fun i _=>n-(intOf i).toNat)
 ·exact⟨0,0,ZY _,rfl,rfl,Z (fun j m=>absurd m Y)⟩
 ·obtain⟨k,d,hk,rfl,rfl,H⟩:=hrel;by_cases t:k<n
  ·obtain⟨I,o,rfl,a0,J⟩:=h.get t (Z4e l k (by rw[p];exact t));have q:0<k→w.cell? (I,o+(k-1))=some (.int .i64 (l.getD (k-1) 0)):=fun h0=>by obtain⟨b2,o2,e,_,P⟩:=h.get (k:=k-1) Y (Z4e l (k-1) (by rw[p];omega));injection e with e;injection e with Q R;subst Q R;exact P
   obtain⟨x,C⟩:=Zb (l.getD k 0);obtain⟨y,D⟩:=Zb (l.getD (k-1) 0);have S:=Z C;have T:=Z D;rw[C]at J;simp only[D]at q;clear C D;have L:Z0W l a k=(decide (0≤x∧x≤a) && (decide (k=0) ||decide (y<x))):=(by unfold Z0W;rw[S,T]);have v:=Z L;clear L;cases hw1:decide (0≤x∧x≤a) with
   |false=>have E:b=false:=(by rw[←z];exact Z36 (k:=k) (by rw[p];exact t) (by rw[v,hw1,Bool.false_and]));subst E;have r:=Z hw1;clear hw1 q;go_wp2_with fail;refine(Z1e x 0 a false _ r).mono ?_;rintro e g ⟨rfl,f⟩;rw[←f];clear f g;go_wp2;go_ret;exact⟨rfl,_,rfl⟩
   |true=>
    have r:=Z hw1;by_cases M:k=0
    ·subst M;have s:Z0W l a 0=true:=(by rw[v,hw1];rfl);have F:=Z s;have a1:w.cell? (I,o)=some (.int .i64 x):=J;clear hw1 q s;go_wp2_with fail;refine(Z1e x 0 a true _ r).mono ?_;rintro e g ⟨rfl,f⟩;rw[←f];clear f g;go_wp2;go_roundw;·exact⟨1,d,Y,by first|rfl|go_num,rfl,Z (fun j m=>(show j=0 from Y) ▸ F)⟩
     ·exact Zh
    ·have a2:=q Y;have a3:(0:Int)<(k:Int):=Y;have a4:0<k:=Y;have U:((k:Int)-1)=((k-1:Nat):Int):=Y;have a5:(0:Int)≤(k:Int)-1:=Y;have a6:(k:Int)-1<(n:Int):=Y;clear q U;by_cases N:y<x
     ·have s:Z0W l a k=true:=(by rw[v,hw1];simp[N]);have F:=Z s;clear hw1 s;go_wp2_with fail;refine(Z1e x 0 a true _ r).mono ?_;rintro e g ⟨rfl,f⟩;rw[←f];clear f g;go_wp2;go_roundw
      ·exact⟨k+1,d,Y,Zg,rfl,Z (fun j m=>by
       rcases Yf j k with h|h;·exact H j h
       ·obtain rfl:j=k:=Y;exact F)⟩
      ·exact Zh
     ·have E:b=false:=(by rw[←z];exact Z36 (k:=k) (by rw[p];exact t) (by rw[v,hw1];simp[N,M]));subst E;clear hw1;go_wp2_with fail;refine(Z1e x 0 a true _ r).mono ?_;rintro e g ⟨rfl,f⟩;rw[←f];clear f g;go_wp2;go_ret;exact⟨rfl,_,rfl⟩
  ·obtain rfl:k=n:=Y;have V:b=true:=(by rw[←z];exact Z5L (fun j m=>H j (by rw[p]at m;exact m)));subst V;go_wp2;go_ret;exact⟨rfl,_,rfl⟩
theorem Zaj (x:Int)(b:Bool)(w:U1)(c:decide (0≤x∧x≤15)=b):Calls prog 239 #[x] w fun e d=>e=.returned (.bool (!b))∧w=d:=by go_enter func239,ntmps239;go_wp2_with fail;refine(Z1e x 0 15 b _ c).mono ?_;rintro e f ⟨rfl,a⟩;rw[←a];clear a f;go_wp2;go_ret;exact⟨rfl,rfl⟩
theorem Zij (a b:Int):(a==b)=decide (a=b):=by
 by_cases h:a=b;·subst h;simp
 ·simp[h]
theorem Z62 (r:Rec)(A:X_)(n c:Nat)(b:Bool)(w:U1)(m:r.D.length=n)(o:r.may=b):Calls prog 209 #[r.val (A,n,c)] w fun e p=>e=.returned (.bool b)∧Below w w p:=by
 obtain⟨O,B,I,⟨K,H,S⟩,s,D⟩:=r;unfold Rec.val;have a:=Z o;unfold Rec.may at a;dsimp only at*;have q:=Z m;have z:=s.isLt;go_enter func209,ntmps209;go_wp2_with fail;all_goals try (go_ret;exact⟨Xu (by rw[←a];refine(decide_eq_false ?_).symm;omega),(Z8 _ _).alloc (Z4 _) _⟩)
 obtain⟨d,f⟩:∃b,Zf.may ⟨K,H,S⟩=b:=⟨_,rfl⟩;have g:=Z f;have i:=Row.new w 159 #[O,B,I,K,H,S,.int .u32 (s.toNat:Int),(A,n,c)];have t:Below w w (w.alloc (.cells #[O,B,I,K,H,S,.int .u32 (s.toNat:Int),(A,n,c)] 159)):=(Z8 _ _).alloc (Z4 _) _;have v:=i.lt;generalize w.alloc (.cells #[O,B,I,K,H,S,.int .u32 (s.toNat:Int),(A,n,c)] 159)=w1 at*;refine(V9 ⟨K,H,S⟩ d w1 f).mono ?_;rintro e C ⟨rfl,j⟩;have k:=i.below j v;have x:=k.cell 5;have y:=k.cell 7;have l:=t.trans (j.mono Y);simp only[Xd,ZE]at x y;cases d
 ·go_wp2;go_ret;exact⟨Xu (by rw[←a];refine(decide_eq_false fun h=>?_).symm;have:=g.out;simp[this]at h),l⟩
 ·go_wp2;go_ret;exact⟨Xu (by rw[←a,g,q,Zij];refine decide_eq_decide.2 ⟨fun h=>⟨Y,Y,Y,Y,Y,Y,rfl,h⟩,fun h=>h.2.2.2.2.2.2.2⟩),l⟩
def Z4j (n:Int) (a:W_):Prop:=∀j,j<a.length→0≤a.getD j 0∧a.getD j 0<n∧(0<j→a.getD (j-1) 0<a.getD j 0)
def Z2O (n:Int) (a:List Zt):Prop:=0≤n∧n≤64∧∀i,i<a.length→Z4j n (a.getD i default).cols∧(a.getD i default).data.length=(a.getD 0 default).data.length
theorem Z8_ (r:Bool)(m:Int)(B:Nat)(A:X_)(n c:Nat)(ps:List (U2×U2))(d:List Zt)(w:U1)(h:Z1A w B A n ps d)(hB:B≤w)(hn:n≤9223372036854775807)
  (hm: -9223372036854775808≤m∧m≤9223372036854775807) (hz:∀q∈d,∀x∈q.cols,-9223372036854775808≤x∧x≤9223372036854775807) (hr:r=true↔Z2O m d):
  Calls prog 272 #[m,(A,n,c)] w fun e w'=>e=.returned (.bool r)∧Below w w w':=by
 have v:=Z hr;have H:=h;have D:=Z h.len;have HZ:=Z hz;obtain⟨aq,ar⟩:=hm;clear hr h hz;by_cases av:m<0
 ·have a:r=false:=by cases r with|false=>rfl|true=>exact absurd (v.1 rfl).1 Y
  subst a;go_enter func272,ntmps272;go_wp2;go_ret;exact⟨rfl,Z8 _ _⟩
 by_cases aw:64<m
 ·have a:r=false:=by cases r with|false=>rfl|true=>exact absurd (v.1 rfl).2.1 Y
  subst a;go_enter func272,ntmps272;go_wp2;go_ret;exact⟨rfl,Z8 _ _⟩
 have ag:0≤m:=Y;have ah:m≤64:=Y;go_enter func272,ntmps272;go_wp2;go_loopw [17] (fun i wr=>∃k:Nat,k≤n∧i=.int .i64 k∧Below w w wr∧Hid (∀i,i<k→Z4j m (d.getD i default).cols∧(d.getD i default).data.length=(d.getD 0 default).data.length)) (fun i _=>n-(intOf i).toNat)
 ·exact⟨0,ZY _,rfl,Z8 _ _,Z (fun j E=>absurd E Y)⟩
 ·obtain⟨k,hk,rfl,F,HK⟩:=hrel;have a8:=F.size;by_cases G:k<n
  ·have R:=H.below (F.mono hB);obtain⟨bb,o,S,T,U,V,rfl,ax,e0,I,h1,h2,J,h4,h5,h6⟩:=R.get G;obtain⟨ay,o',az,aB,aC,aD,W,aE,a9,L,_,_,_,aa,aF,_⟩:=R.get (show 0<n from Y);injection W with W;injection W with ai aj;subst ai aj;have a0:d.getD k default∈d:=(by rw[Z6,Z7 (by rw[D];exact G)];exact Zp _);obtain⟨q,hq⟩:=Zb (d.getD k default);rw[hq]at e0 I h1 J h4 h6 a0;obtain⟨q0,a1⟩:=Zb (d.getD 0 default);rw[a1]at a9 L aa;have M:=Z hq;have ab:=Z a1;have ak:=Z (HZ q a0);obtain⟨f,a2⟩:=Zb q.cols.length;obtain⟨s,a3⟩:=Zb q.data.length;obtain⟨a4,a5⟩:=Zb q0.data.length;rw[a2]at e0 h1 J;rw[a3]at I h4;rw[a5]at L aa;have z:=Z a2;have ac:=Z a3;have ad:=Z a5;have g:=Row.new wr 281 #[(S,f,T),(U,s,V)];have N:Below wr wr (wr.alloc (.cells #[(S,f,T),(U,s,V)] 281)):=(Z8 _ _).alloc (Z4 _) _;have x0:=Z9 g 0;have x1:=Z9 g 1;have H3:=J.below (N.mono (Zj hB a8));have aG:=(N.cell (p:=(bb,o+1)) (by show bb<wr;omega)).trans (by simpa using L);have C:=F.trans (N.mono a8);clear hq a1 a2 a3 a5 R a9 L g J h6 a0 N;go_wp2_with fail;generalize wr.alloc (.cells #[(S,f,T),(U,s,V)] 281)=wx at*;have aH:=HZ;go_loopw [24] (fun i w3=>∃j:Nat,j≤f∧i=.int .i64 j∧w3=wx∧Hid (∀i,i<j→0≤q.cols.getD i 0∧q.cols.getD i 0<m∧(0<i→q.cols.getD (i-1) 0<q.cols.getD i 0))) (fun i _=>f-(intOf i).toNat)
   ·exact⟨0,ZY _,rfl,rfl,Z (fun j E=>absurd E Y)⟩
   ·obtain⟨j,E,rfl,rfl,HJ⟩:=hrel;by_cases O:j<f
    ·obtain⟨b3,o3,rfl,aI,ae⟩:=H3.get O (Z1i q.cols j (by rw[z];exact O));have t:0<j→wr.cell? (b3,o3+(j-1))=some (.int .i64 (q.cols.getD (j-1) 0)):=fun h0=>by obtain⟨b2,o2,e,_,h2⟩:=H3.get (k:=j-1) Y (Z1i q.cols (j-1) (by rw[z];omega));injection e with e;injection e with I e2;subst I e2;exact h2
     have P:q.cols.getD j 0∈q.cols:=(by rw[Z6,Z7 (by rw[z];exact O)];exact Zp _);obtain⟨x,g⟩:=Zb (q.cols.getD j 0);obtain⟨y,hy⟩:=Zb (q.cols.getD (j-1) 0);have HX:=Z g;have HY:=Z hy;rw[g]at ae P;simp only[hy]at t;have al:=ak x P;obtain⟨aJ,aK⟩:=al;have a:¬(0≤x∧x<m∧(0<j→y<x))→r=false:=fun hn=>by
      cases r with
      |false=>rfl
      |true=>have b:=((v.1 rfl).2.2 k (by rw[D];exact G)).1 j (by rw[M,z];exact O);rw[M,HX,HY]at b;exact absurd b hn
     have a6:=Z a;clear g hy a P;by_cases aL:x<0;·have a:=a6 Y;subst a;clear t;go_wp2;go_ret;exact⟨rfl,C⟩
     by_cases P:m≤x;·have a:=a6 Y;subst a;clear t;go_wp2;go_ret;exact⟨rfl,C⟩
     by_cases am:j=0
     ·subst am;have aM:wr.cell? (b3,o3)=some (.int .i64 x):=ae;have an:Hid (∀i,i<1→0≤q.cols.getD i 0∧q.cols.getD i 0<m∧(0<i→q.cols.getD (i-1) 0<q.cols.getD i 0)):=Z (fun i Q=>by obtain rfl:i=0:=Y;rw[HX];exact⟨Y,Y,fun h=>absurd h Y⟩);clear t;go_wp2;go_roundw;·exact⟨1,Y,Zg,by first|rfl|trivial,an⟩
      ·exact Zh
     ·have ao:=t Y;obtain⟨l,rfl⟩:∃l,j=l+1:=⟨j-1,Y⟩;rw[Nat.add_sub_cancel]at ao;have aO:((l+1:Nat):Int)-1=(l:Int):=Y;clear t;by_cases aP:x≤y;·have a:=a6 Y;subst a;go_wp2;go_ret;exact⟨rfl,C⟩
      ·go_wp2;go_roundw
       ·exact⟨l+2,Y,Zg,by first|rfl|trivial,Z (fun i Q=>by
        rcases Yf i (l+1) with b|b;·exact HJ i b
        ·obtain rfl:i=l+1:=Y;rw[HX,HY];exact⟨Y,Y,fun _=>Y⟩)⟩
       ·exact Zh
    ·obtain rfl:j=f:=Y;by_cases a7:s=a4
     ·have ap:((s:Int) !=(a4:Int))=false:=(by simp[a7]);subst a7;go_wp2_with fail;go_quiet (fail)
      go_wp2;go_roundw
      ·exact⟨k+1,Y,Zg,bq_ C _,Z (fun i Q=>by
        rcases Yf i k with b|b;·exact HK i b
        ·obtain rfl:i=k:=Y;rw[M,ab];exact⟨fun j9 af=>HJ j9 (by rw[z]at af;exact af),by rw[ac,ad]⟩)⟩
      ·exact Zh
     ·have ap:((s:Int) !=(a4:Int))=true:=Zx;have a:r=false:=by
       cases r with
       |false=>rfl
       |true=>have b:=((v.1 rfl).2.2 k (by rw[D];exact G)).2;rw[M,ab,ac,ad]at b;exact absurd b a7
      subst a;go_wp2_with fail;go_quiet (fail)
      go_wp2;go_ret;exact⟨rfl,bq_ C _⟩
  ·obtain rfl:k=n:=Y;go_wp2;go_ret;refine⟨Xu (v.2 ⟨ag,ah,fun i Q=>HK i (by rw[←D];exact Q)⟩).symm,F⟩
def WB:Z_→Nat→Z_→Z_
 |cs,_, []=>cs
 |cs,o,v::r=>WB (cs.set o v) (o+1) r
theorem Z2C:∀(b a:Z_) (o:Nat),(WB a o b).length=a.length
 | [],_,_=>rfl
 |v::r,a,o=>by rw[WB,Z2C r];simp
theorem Z4V:∀(b a:Z_) (o m:Nat),m≤o→(WB a o b).take m=a.take m
 | [],_,_,_,_=>rfl
 |v::r,a,o,m,h=>by rw[WB,Z4V r _ _ _ Y,List.take_set_of_le Y]
theorem Z4O:∀(b a:Z_) (o m:Nat),o+b.length≤m→(WB a o b).drop m=a.drop m
 | [],_,_,_,_=>rfl
 |v::r,a,o,m,h=>by rw[WB,Z4O r _ _ _ (by simp at h;omega),List.drop_set_of_lt (by simp at h;omega)]
theorem Z5u:∀(b a:Z_) (o:Nat),o+b.length≤a.length→(WB a o b).take (o+b.length)=a.take o++b
 | [],a,o,_=>by simp[WB]
 |v::r,a,o,h=>by simp only[XQ]at h;rw[WB,XQ,show o+(r.length+1)=(o+1)+r.length from Y,Z5u r _ _ Zx,List.take_set,ZR Y,Wn _ _ Zx];simp[show o-min o a.length=0 from Y]
theorem Row.setCells {w:U1}:∀(b a:Z_) (o:Nat) (w:U1),Row w n t a→Row (w.setCells n o b) n t (WB a o b)
 | [],_,_,_,h=>h
 |v::r,a,o,w,h=>by rw[World.setCells,WB];exact Row.setCells (w:=w) r _ _ _ (h.set o v)
theorem Only.setCells {F:U0}{w:U1}(b:F n):∀(c:Z_) (o:Nat) (a:U1),Only F w a→Only F w (a.setCells n o c)
 | [],_,_,h=>h
 |v::r,o,a,h=>by rw[World.setCells];exact Only.setCells b r _ _ (h.set b o v)
theorem Z28 {α:Type}{a:α→Z_}{K:Nat}(b:∀x,(a x).length=K):∀l:List α,(l.flatMap a).length=l.length*K
 | []=>Ze
 |x::l=>by rw[Vb,Zw,b,Z28 b l,XQ,X9];omega
theorem WW {α:Type}[Inhabited α]{enc:α→Z_}{K:Nat}(a:∀x,(enc x).length=K):∀(l:List α) (j t:Nat),j<l.length→t<K→(l.flatMap enc)[j*K+t]? =(enc (l.getD j default))[t]?
 | [],j,_,h,_=>absurd h Ze
 |x::l,0,t,_,ht=>by rw[Vb,Nat.zero_mul,Wz,Yp (by rw[a];exact ht)];rfl
 |x::l,j+1,t,h,ht=>by rw[Vb,Y7 (by rw[a,X9];omega),a,show(j+1)*K+t-K=j*K+t by rw[X9];omega,WW a l j t (by simpa using h) ht];rfl
theorem Z9h {a:Z_}{K:Nat}(b:a.length=K)(hK:0<K):∀n,(List.range (n*K)).map (fun i=>a.toArray[i % K]!)=(List.replicate n ()).flatMap fun _=>a
 |0=>Ze
 |n+1=>by
  rw[X9,List.range_add,ZV,Z9h b hK n,List.replicate_succ',Vr];congr 1;rw[WS];have e:((fun i=>a.toArray[i % K]!) ∘ fun x=>n*K+x)=fun i=>a.toArray[i % K]! :=by funext i;show a.toArray[(n*K+i) % K]! =_;rw[Nat.mul_comm,Nat.mul_add_mod]
  rw[e];simp only[Vb,List.flatMap_nil,Wo];apply List.ext_getElem;·simp[b]
  ·intro i d c;simp only[List.getElem_map,List.getElem_range];rw[Z2R Y];rw[getElem!_pos a.toArray i (by simpa using c)];simp
theorem Z5Z {P:Program}(K:Nat)(hK:0<K)(w:U1)(t e p:TypeId)(f:U2)(a:Z_)(q:P.underlying t=some (.slice e))(r:∀w,(zeroValue e).run P w=.ok f w)(s:f.cells=a.toArray)(g:a.length=K)(x:∀v∈a,v.oneCell'=true)(b o n c:Nat)(z:0<n)
  (i:∀j,j<n*K→(w.cell? (b,o+j)).isSome=true∧w.frozen? ⟨b,o+j,none⟩=false):
  (Builtin.clear_ #[t] p #[.slice (some ⟨b,o,none⟩) n c]).run P w=.ok (.tuple #[]) (w.setCells b o ((List.replicate n ()).flatMap fun _=>a)):=by
 have y:(Builtin.zeroCells f.cells n).toList=(List.replicate n ()).flatMap fun _=>a:=by rw[s];simp only[Builtin.zeroCells,Array.toList_map,Z1P,List.size_toArray,g];exact Z9h g hK n
 have k:((List.replicate n ()).flatMap fun _=>a).length=n*K:=by simp[g]
 have l:=run_storeCells_cells (P:=P) b o ((List.replicate n ()).flatMap fun _=>a) 0 w (by rw[k];intro j h;simpa using(i j h).1) (by rw[k];intro j h;simpa using(i j h).2) (by intro v d;simp only[List.mem_flatMap]at d;obtain⟨_,_,d⟩:=d;exact x v d);simp only[XV]at l;obtain⟨m,rfl⟩:∃m,n=m+1:=⟨n-1,Y⟩;simp[Builtin.clear_,run_underlying q,r,y,l]
theorem Z39 {α:Type}[Inhabited α](q:α→Bool)(a:List α)(j:Nat)(h:j<a.length):(a.take (j+1)).filter q=(a.take j).filter q++(if q (a.getD j default) then [a.getD j default] else []):=by rw[ZR h,Vs,Z6,Z7 h];congr 1;simp only[Yz,List.filter_cons,List.filter_nil]
def en3 (x:Int):Z_:= [.int .i64 x]
def Z7D (x:Int):U2:= .int .i64 x
theorem Z6H (x:Int):(en3 x).length=1:=rfl
theorem ZdS (g n c:Nat)(a:W_)(p:Int→Bool)(f:Nat)(A:Array U2)(o:Z_)(w:U1)(R:∀B w,(callFunc f B).run prog w=.ok (.enter f B) w)
  (G:Row w g 3 o) (H:o.take (n*1)=a.flatMap en3) (I:a.length=n) (S:n≤100000)
  (J:∀x∈a,∀d,Below w w d→Calls prog f (#[Z7D x]++A) d fun e L=>e=.returned (.bool (p x))∧Below d d L):
  Calls prog 106 #[(g,n,c),.func (.func f) #[] A] w fun e d=>((∃k:Nat,e=.returned (k:Int)∧k<n∧p (a.getD k default)=true∧∀j,j<k→p (a.getD j default)=false)∨(e=.returned (.int .i64 (-1))∧∀j,j<n→p (a.getD j default)=false))∧Below w w d:=by
 have M:=Z J;have C:=G;have m:∀j,j<n→∀t,t<1→o[j*1+t]? =(en3 (a.getD j default))[t]? :=fun j q t N=>by have l:=WW (enc:=en3) (K:=1) (fun _=>rfl) a j t Y N;rw[←H,VW Y]at l;exact l
 have O:=Z m;have P:=Z I;go_enter func106,ntmps106;go_wp2;go_loopw [5,8] (fun _ i wr=>∃k:Nat,k≤n∧i=.int .i64 (k:Int)∧Hid (∀j,j<k→p (a.getD j default)=false)∧Hid (Below w w wr)) (fun _ i _=>n-(intOf i).toNat)
 ·exact⟨0,ZY _,rfl,Z (fun j q=>absurd q Y),Z (Z8 _ _)⟩
 ·obtain⟨k,T,rfl,r,h⟩:=hrel;by_cases s:k<n
  ·have U:(k:Int)<(n:Int):=Y;have Q:=C.below h C.lt;have m:=O k s;obtain⟨x,v⟩:=Zb (a.getD k default);rw[v]at m;have V:wr.cell? (g,k)=some (.int .i64 x):=(by rw[Q.cell];exact by have:=m 0 Y;rwa [Wy,XV]at this);have y:=M x (by rw[←v,Z6,Z7 (P ▸ s)];exact Zp _) wr h;obtain⟨b,D⟩:=Zb (p x);rw[D]at y;have E:=Z v;have F:=Z D;cases b with
   |true=>
    go_wp2_with (go_at_fn f;go_must (refine(y).mono ?_);rintro e d ⟨rfl,z⟩)
    go_ret;exact⟨.inl ⟨k,rfl,s,by rw[E];exact F,r⟩,h.trans (z.mono h.size)⟩
   |false=>
    go_wp2_with (go_at_fn f;go_must (refine(y).mono ?_);rintro e d ⟨rfl,z⟩)
    go_roundw
    ·exact⟨k+1,Y,Zg,Z (fun j q=>by
     rcases Yf j k with l|l;·exact r j l
     ·have:j=k:=Y;rw[this,E];exact F),Z (h.trans (z.mono h.size))⟩
    ·exact Zh
  ·obtain rfl:k=n:=Y;go_wp2;go_ret;exact⟨.inr ⟨rfl,r⟩,h⟩
structure DlI (w0 wr:World) (g n:Nat) (xs:List Int) (q:Int→Bool) (cs:List Value) (i j:Nat) (cs':List Value):Prop where
 row:Row wr g 3 cs'
 len:cs'.length=cs.length
 cnt:((xs.take j).filter q).length=i
 tk:cs'.take (i*1)=((xs.take j).filter q).flatMap en3
 dr:cs'.drop (j*1)=cs.drop (j*1)
 on:Only (fun k=>k=g) w0 wr
theorem DlI.keep {wr:U1}{g:Nat}{q:Int→Bool}(h:DlI w wr g n s q l m k L)(b:Below wr wr v):DlI w v g n s q l m k L:=
 ⟨h.row.below b h.row.lt,h.len,h.cnt,h.tk,h.dr,h.on.trans (Only.of_new (F:=fun a=>a=g) b) (fun _ _ e=>e)⟩
theorem DlI.skip {wr:U1}{q:Int→Bool}(h:DlI w wr n m s q l k i L)(a:i<s.length)(b:q (s.getD i default)=false):DlI w wr n m s q l k (i+1) L:=by
 have e:(s.take (i+1)).filter q=(s.take i).filter q:=by rw[Z39 q s i a,b];simp
 refine⟨h.row,h.len,by rw[e];exact h.cnt,by rw[e];exact h.tk,?_,h.on⟩;rw[X9,←V4,←V4,h.dr]
theorem DlI.put {wr:U1}{i j:Nat}{q:Int→Bool}(h:DlI w wr n m s q l i j L)(b:j<s.length)(c:q (s.getD j default)=true)(g:i≤j)(o:s.length*1≤l.length)(d:Row v n 3 (WB L (i*1) (en3 (s.getD j default))))(f:Only (fun k=>k=n) w v):DlI w v n m s q l (i+1) (j+1) (WB L (i*1) (en3 (s.getD j default))):=by
 have e:(s.take (j+1)).filter q=(s.take j).filter q++ [s.getD j default]:=by rw[Z39 q s j b,c];simp
 refine⟨d,by rw[Z2C];exact h.len,by rw[e,Zw,h.cnt];rfl,?_,?_,f⟩;·have a:=Z5u (en3 (s.getD j default)) L (i*1) (by rw[Z6H,h.len];omega);rw[Z6H]at a;rw[X9,a,h.tk,e,Vr];simp
 ·rw[Z4O _ _ _ _ (by rw[Z6H];omega),X9,←V4,←V4,h.dr]
theorem DlI.at_ {wr:U1}{q:Int→Bool}(h:DlI w wr n m s q l k i L)(t:Nat):L[i*1+t]? =l[i*1+t]? :=by have:=congrArg (fun z=>z[t]?) h.dr;simpa only[Z0o]using this
theorem Zk2:∀w,(zeroValue 3).run prog w=.ok Nat w:=zeroValue3
theorem Zi_ (f:Nat)(a:Array U2)(w:U1):Calls prog 106 #[(),.func (.func f) #[] a] w fun e b=>e=.returned (.int .i64 (-1))∧w=b:=by
 go_enter func106,ntmps106;go_wp2;go_loop [5,8] (fun _ i=>i=.int .i64 0) (fun _ _=>0)
 ·rfl
 ·subst hrel;go_wp2;go_ret;exact⟨rfl,rfl⟩
theorem ZiA (f:Nat)(a:Array U2)(w:U1):Calls prog 53 #[(),.func (.func f) #[] a] w fun e b=>e=.returned ()∧w=b:=by go_enter func53,ntmps53;go_wp2_with fail;refine(Zi_ f a w).mono ?_;rintro e b ⟨rfl,rfl⟩;go_wp2;go_ret;exact⟨rfl,rfl⟩
theorem ZcG (O g n c:Nat)(a:W_)(p:Int→Bool)(f:Nat)(Q:Array U2)(w:U1)(eg:∀W w,(callFunc f W).run prog w=.ok (.enter f W) w)
  (ho:w.ownsRow O 3 1 (g,n,c) n (a.flatMap en3)) (hl:a.length=n) (hn:n≤100000)
  (hp:∀x∈a,∀d,Only (fun k=>k=g) w d→Calls prog f (#[Z7D x]++Q) d fun e ab=>e=.returned (.bool (p x))∧Below d d ab):
  Calls prog 53 #[(g,n,c),.func (.func f) #[] Q] w fun e d=>∃m,e=.returned (g,m,c)∧(a.filter fun x=> !p x).length=m∧d.ownsRow O 3 1 (g,m,c) m ((a.filter fun x=> !p x).flatMap en3)∧Only (fun k=>k=g) w d:=by
 have HO:=ho;rcases ho.2 with ⟨q,_⟩|⟨g',c',a0,q,ac,ad,ay,ae,a1,A⟩;·cases q
 injection q with q z R;injection q with q;injection q with q _ _;subst q R;have B:Row w g 3 a0.toList:=by simpa[Row]using ad
 obtain⟨s,a2⟩:=Zb a0.toList;rw[a2]at B A;have C:s.length=c*1:=by rw[←a2];simpa using a1
 have HP:=Z hp;have r:=Z hl;have af:=Z A;have ag:=ZdS g n c a p f Q s w eg B A hl hn (fun x v d D=>hp x v d (Only.of_new D));have E:∀j,j<n→∀t,t<1→s[j*1+t]? =(en3 (a.getD j default))[t]? :=fun j hj t ht=>by have q:=WW (enc:=en3) (K:=1) (fun _=>rfl) a j t Y ht;rw[←A,VW Y]at q;exact q
 have ah:=Z E;have ai:c≤9223372036854775807:=ae;go_enter func53,ntmps53;go_wp2_with fail;refine ag.mono ?_;rintro e w1 ⟨aj,G⟩;rcases aj with ⟨o,rfl,ak,a3,H⟩|⟨rfl,H⟩
 ·have az:=Z a3;have aB:=Z H;have aC:((o:Int)== -1)=false:=beq_eq_false_iff_ne.2 Y;have I:(a.take o).filter (fun x=> !p x)=a.take o:=Z2k.2 (fun x v=>by obtain⟨i,J,rfl⟩:=ZZ v;rw[ZK]at J;have:=H i Y;rw[Z6,Z7 Y]at this;rw[List.getElem_take];simpa using this);have al:Hid (DlI w w1 g n a (fun x=> !p x) s o (o+1) s):=by have h0:DlI w w1 g n a (fun x=> !p x) s o o s:=(by refine⟨B.below G B.lt,rfl,by rw[I,ZK,r];omega,?_,rfl,Only.of_new G⟩;rw[I];have z:(a.flatMap en3).take (o*1)=(a.take o).flatMap en3:=(by have R:a.flatMap en3=(a.take o).flatMap en3++(a.drop o).flatMap en3:=(by rw[←Vr,Vh]);rw[R,Z1t (by rw[Z28 (K:=1) (fun _=>rfl),ZK,r];rw[Z04 Y];exact Z4 _),ZP (by rw[Z28 (K:=1) (fun _=>rfl),ZK,r];rw[Z04 Y];exact Z4 _)]);rw[←z,←af,Z3D,Z04 Y]);exact Z (h0.skip (r ▸ ak) (by rw[a3];rfl))
  go_wp2;go_loopw [5,6,7] (fun s5 S _ wr=>∃(i j:Nat) (L:Z_),s5=.int .i64 (i:Int)∧S=.int .i64 (j:Int)∧j≤n∧i<j∧Hid (DlI w wr g n a (fun x=> !p x) s i j L)) (fun _ S _ _=>n-(intOf S).toNat)
  ·exact⟨o,o+1,s,rfl,Zg,Y,Y,al⟩
  ·obtain⟨i,j,L,rfl,rfl,aD,aE,l⟩:=hrel;by_cases M:j<n
   ·have aF:(j:Int)<(n:Int):=Y;have E:=ah j M;obtain⟨x,v⟩:=Zb (a.getD j default);rw[v]at E;have am:=l.row;have an:=l.at_;have N:=l.len;have d0:wr.cell? (g,j)=some (.int .i64 x):=(by rw[am.cell];have:=an 0;have z:=E 0 Y;rw[←this]at z;rwa [Wy,XV]at z);have a4:=HP x (by rw[←v,Z6,Z7 (r ▸ M)];exact Zp _);obtain⟨b,D⟩:=Zb (p x);simp only[D]at a4;have T:=Z v;have a5:=Z D;have a6:=Z a4;have aG:(i:Int)<(n:Int):=Y;cases b with
    |true=>
     go_wp2_with (go_at_fn f;go_must (refine(a6 _ l.on).mono ?_);rintro e d ⟨rfl,U⟩;have y:=l.keep U)
     go_roundw;·exact⟨i,j+1,L,rfl,Zg,Y,Y,Z (y.skip (r ▸ M) (by rw[T,a5];rfl))⟩
     ·exact Zh
    |false=>
     have ao:=Z N;go_wp2_with (go_at_fn f;go_must (refine(a6 _ l.on).mono ?_);rintro e d ⟨rfl,U⟩;have y:=l.keep U;have ap:=ao.out;obtain⟨ua,aH⟩:∃u,d.cell? ⟨g,i,none⟩=some u:=⟨_,(y.row.cell _).trans (Z7 (by rw[ap,C];omega))⟩;have aI:=y.row.frozen (i))
     have aq:Row (d.setCell (g,i) x) g 3 (WB L (i*1) (en3 (a.getD j default))):=(by rw[T];exact((y.row).set (i) x).to (by rw[Wy];rfl));have ar:Only (fun k=>k=g) w (d.setCell (g,i) x):=(y.on).set rfl (i) x;have av:=y.put (r ▸ M) (by rw[T,a5];rfl) Y (by rw[r,C];omega) aq ar;go_roundw;·exact⟨i+1,j+1,_,Zg,Zg,Y,Y,av⟩
     ·exact Zh
   ·obtain rfl:j=n:=Y;have N:=l.len;have a1:∀V,(Builtin.clear_ #[22] V #[.slice (some ⟨g,i,none⟩) (j-i) (c-i)]).run prog wr=.ok (.tuple #[]) (wr.setCells g (i) ((List.replicate (j-i) ()).flatMap fun _=>en3 (0:Int))):=fun V=>by refine Z5Z (P:=prog) 1 Y wr 22 3 V _ _ underlying22 Zk2 rfl rfl (by simp[en3,Value.oneCell']) g (i) (j-i) (c-i) Y (fun t ht=>?_);have a7:=l.row.cell (i+t);rw[Z7 (by rw[N,C];omega)]at a7;exact⟨by rw[a7];rfl,l.row.frozen _⟩
    have aw:=Row.setCells (w:=w) (((List.replicate (j-i) ()).flatMap fun _=>en3 (0:Int))) _ (i) _ l.row;have ax:=Only.setCells (F:=fun k=>k=g) rfl (((List.replicate (j-i) ()).flatMap fun _=>en3 (0:Int))) (i) _ l.on;have aJ:¬c=i:=Y;have aK:(i:Int)≤(j:Int):=Y;have aL:(i:Int)≤(c:Int):=Y;have aM:(j:Int)≤(c:Int):=Y;go_wp2;go_ret;have a8:(a.take j).filter (fun x=> !p x)=a.filter fun x=> !p x:=(by rw[ZP (by rw[r];exact Z4 _)]);have a9:=Row.own (base:=O) (size:=1) (n:=i) (cap:=c) aw ac Y ai (by rw[Z2C,N,C]);rw[Z4V _ _ _ _ Y,l.tk,a8]at a9;exact⟨i,rfl,by rw[←a8];exact l.cnt,a9,ax⟩
 ·have I:a.filter (fun x=> !p x)=a:=Z2k.2 (fun x v=>by obtain⟨i,J,rfl⟩:=ZZ v;have:=H i (r ▸ J);rw[Z6,Z7 J]at this;simpa using this);have aa:=Z I;go_wp2;go_ret;refine⟨n,rfl,by rw[aa];exact r,?_,Only.of_new G⟩;rw[aa];exact Zu HO (Only.of_new (F:=fun _=>False) G) (fun _ _ h=>h)
theorem ZaF {l:W_}{d:Int}(h:VR l d=true):∀j,j<l.length→∀i,i<j→l.getD i 0<l.getD j 0
 |0,_,i,hi=>absurd hi Y
 |j+1,hj,i,hi=>by
  have a:=Z3O h hj;unfold Z0W at a;simp only[Xp,Bool.or_eq_true,decide_eq_true_eq,Nat.add_sub_cancel]at a;rcases a.2 with b|b;·omega
  ·rcases Yf i j with c|c;·have:=ZaF h j Y i c;omega
   ·obtain rfl:i=j:=Y;exact b
theorem Z8X (h:VR s c=true):s.Pairwise (· < ·):=
 VH.2 fun i j b a d=>by have:=ZaF h j a i d;rwa [Z6,Z6,Z7 b,Z7 a]at this
theorem Z3b (h:VR s c=true):s.Nodup:=
 (Z8X h).imp fun a e=>Y
theorem Za4 (h:VR s c=true):∀y∈s,0≤y∧y≤c:=fun y b=>by obtain⟨i,a,rfl⟩:=ZZ b;have:=Z4a h a;rwa [Z6,Z7 a]at this
