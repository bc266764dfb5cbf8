/- RecMath RecLaw Swl2 MapK -/
import Derived.Test.YtpokipdpjhookaaGreatDoorBTopRetires01
import Derived.Test.YtpokipdpjhookaaGreatDoorBTopRetires04
import Derived.Test.YtpokipdpjhookaaGreatDoorBTopRetires05
set_option maxHeartbeats 8000000
set_option maxRecDepth 20000
set_option linter.all false
namespace Go.Proofs
open Go Go.RowKit Tryz
def Yg (x:Int) (i:Nat):Byte:=BitVec.ofNat 8 (x / 2 ^ (8*i) % 256).toNat
def ZN:Nat→Int→BL
 |0,_=> []
 |n+1,x=>Yg x n::ZN n x
theorem Z2v (n:Nat)(x:Int):(ZN n x).length=n:=by
 induction n with
 |zero=>rfl
 |succ n ih=>simp[ZN,ih]
def YX (l:BL):Int:=l.foldl (fun n b=>n*256+(b.toNat:Int)) 0
theorem ZeX (l:BL)(b:Byte):YX (l++ [b])=YX l*256+(b.toNat:Int):=by simp[YX]
theorem Zc5 (l:BL)(n:Int)(h:0≤n):0≤l.foldl (fun n (b:Byte)=>n*256+(b.toNat:Int)) n∧l.foldl (fun n (b:Byte)=>n*256+(b.toNat:Int)) n<(n+1)*256 ^ l.length:=by
 induction l generalizing n with
 |nil=>simp;omega
 |cons b l ih=>have d:=b.isLt;obtain⟨a,c⟩:=ih (n*256+(b.toNat:Int)) Y;rw[Z1T,XQ,Int.pow_succ,Int.mul_comm (256 ^ l.length) 256,←Int.mul_assoc];refine⟨a,Int.lt_of_lt_of_le c ?_⟩;exact Int.mul_le_mul_of_nonneg_right Y (Int.pow_nonneg Y)
theorem Z8n (l:BL):0≤YX l∧YX l<256 ^ l.length:=by have:=Zc5 l 0 Y;simpa[YX]using this
theorem Z0c (x:Int)(i:Nat):((Yg x i).toNat:Int)=x / 2 ^ (8*i) % 256:=by unfold Yg;rw[Z2Y];omega
theorem ZcP (x:Int)(h:0≤x∧x<256):YX (ZN 1 x)=x:=by simp only[ZN,YX,List.foldl,Z0c];simp;omega
theorem ZcX (x:Int)(h:0≤x∧x<65536):YX (ZN 2 x)=x:=by simp only[ZN,YX,List.foldl,Z0c];simp;omega
theorem Zd6 (x:Int)(h:0≤x∧x<16777216):YX (ZN 3 x)=x:=by simp only[ZN,YX,List.foldl,Z0c];simp;omega
theorem Zdy (x:Int)(h:0≤x∧x<4294967296):YX (ZN 4 x)=x:=by simp only[ZN,YX,List.foldl,Z0c];simp;omega
deriving instance DecidableEq for Zf
structure Rec where
 O:Int
 B:Int
 I:Int
 P:Zf
 S:BitVec 32
 D:BL
deriving DecidableEq
def Rec.zero:Rec:=⟨0,0,0,⟨0,0,0⟩,0, []⟩
def Rec.val (r:Rec) (d:U2):U2:= .agg #[.int .i64 r.O,.int .i64 r.B,.int .i64 r.I,.int .i64 r.P.K,.int .i64 r.P.H,.int .i64 r.P.S,.int .u32 (r.S.toNat:Int),d]
def Rec.may (r:Rec):Bool:=decide (0≤r.O∧r.O≤16777215∧0≤r.B∧r.B<8∧0≤r.I∧r.I≤65535∧r.P.may=true∧(r.D.length:Int)=r.P.S)
def Vx (r:Rec):BL:=ZN 3 r.O++ZN 1 r.B++ZN 2 r.I++ [Yg r.P.K 0,Yg r.P.H 0,Yg r.P.S 0]++ZN 4 (r.S.toNat:Int)++r.D
theorem Z57 (r:Rec):(Vx r).length=13+r.D.length:=by unfold Vx;simp[Z2v];omega
def Yr (r:Rec):BL:=if r.may then cellL 1 (Vx r) else []
def Z2f (l:BL) (i:Nat):Int:=((l.getD i 0).toNat:Int)
def Z2d (x:BL):Zf:=⟨Z2f x 6,Z2f x 7,Z2f x 8⟩
def Z1s (x:BL):Rec:=⟨YX (x.take 3),YX ((x.drop 3).take 1),YX ((x.drop 4).take 2),Z2d x,BitVec.ofNat 32 (YX ((x.drop 9).take 4)).toNat,(x.drop 13).take (Z2f x 8).toNat⟩
def Xo (b:BL):Option Rec:=
 match Vq b with
 |none=>none
 |some (k,x)=>if k=1#8∧(Z2d x).may=true∧Yr (Z1s x)=b then some (Z1s x) else none
theorem Z26 {r:Rec}(h:r.may=true):0≤r.O∧r.O≤16777215∧0≤r.B∧r.B<8∧0≤r.I∧r.I≤65535∧r.P.may=true∧(r.D.length:Int)=r.P.S:=by unfold Rec.may at h;exact of_decide_eq_true h
theorem Ze4 {r:Rec}(h:r.may=true):Z1s (pad (Vx r))=r:=by
 obtain⟨m,n,o,p,q,t,f,v⟩:=Z26 h;have g:=Zf.may_ok f;obtain⟨w,y,z,A,C,E⟩:=g;obtain⟨O,B,I,⟨K,H,S⟩,s,D⟩:=r;dsimp only at*;have F:=s.isLt;have a (x:Int) (hx:0≤x∧x<256):((Yg x 0).toNat:Int)=x:=by rw[Z0c];simp;omega
 have b:=Zd6 O Y;have c:=ZcP B Y;have d:=ZcX I Y;have e:=Zdy (s.toNat:Int) Y;have i:=a K Y;have j:=a H Y;have k:=a S Y;have l:pad (Vx ⟨O,B,I,⟨K,H,S⟩,s,D⟩)=[Yg O 2,Yg O 1,Yg O 0,Yg B 0,Yg I 1,Yg I 0,Yg K 0,Yg H 0,Yg S 0,Yg s.toNat 3,Yg s.toNat 2,Yg s.toNat 1,Yg s.toNat 0]++(D++List.replicate (55-(13+D.length)) 0#8):=by unfold pad;rw[Z57];simp only[Vx,ZN,Z0L,Z10,YH]
 rw[l];simp only[ZN]at b c d e;unfold Z1s Z2d Z2f;simp only[Z0L,Z10,List.take_succ_cons,List.take_zero,List.drop_succ_cons,List.drop_zero,List.getD_cons_succ,List.getD_cons_zero,b,c,d,e,i,j,k];congr 1;·simp
 ·rw[Z1t Y,ZP Y]
theorem Z9P {r:Rec}(h:r.may=true):Yr r=cellL 1 (Vx r):=if_pos h
theorem Z4U {r:Rec}(h:r.may=true):(Vx r).length≤55:=by obtain⟨_,_,_,_,_,_,a,c⟩:=Z26 h;have b:=Zf.may_ok a;obtain⟨d,e,f,g,i,j⟩:=b;rw[Z57];omega
theorem Z8v {r:Rec}(h:r.may=true):Yr r=frame 1#8 (Vx r):=by rw[Z9P h,Z3l ⟨Y,Y,Z4U h⟩];rfl
theorem Z51 {r:Rec}(h:r.may=true):(Yr r).length=64:=by rw[Z8v h,Z3T (Z4U h)]
theorem Z47 {r:Rec}(h:r.may=true):Xo (Yr r)=some r:=by
 have b:Vq (Yr r)=some (1#8,pad (Vx r)):=by rw[Z8v h];exact Z8w Z5 (Z4U h)
 have a:=Ze4 h;have c:(Z2d (pad (Vx r))).may=true:=by have:(Z1s (pad (Vx r))).P=Z2d (pad (Vx r)):=rfl;rw[←this,a];exact(Z26 h).2.2.2.2.2.2.1
 unfold Xo;rw[b];dsimp only;rw[if_pos ⟨rfl,c,by rw[a]⟩,a]
theorem Z4L {b:BL}{r:Rec}(h:Xo b=some r):r.may=true∧Yr r=b:=by
 unfold Xo at h;split at h;·cases h
 ·rename_i k x a;split at h
  ·rename_i c;injection h with h;subst h;refine⟨?_,c.2.2⟩;cases hm:(Z1s x).may with
   |true=>rfl
   |false=>have:=c.2.2;unfold Yr at this;rw[hm]at this;simp at this;subst this;have:=(Z6t a).2.2;have d:=congrArg List.length this;rw[Z3T (Zc ((Z6t a).2.1))]at d;cases d
  ·cases h
section
section
variable {α β:Type} {lt:α→α→Bool} {lt2:β→β→Bool}
theorem Zai (f:α→β)(h:∀x y,lt x y=lt2 (f x) (f y))(x:α):∀l,(ins lt x l).map f=ins lt2 (f x) (l.map f)
 | []=>rfl
 |y::ys=>by unfold ins;rw[h];simp only[WQ];split <;> simp[Zai f h x ys]
theorem Zay (f:α→β)(h:∀x y,lt x y=lt2 (f x) (f y)):∀(R L:List α),(Y3 lt L R).map f=Y3 lt2 (L.map f) (R.map f)
 | [],_=>rfl
 |x::R,L=>by rw[Z0C,Zay f h R,Zai f h];rfl
theorem ZdQ (f:α→β)(h:∀x y,lt x y=lt2 (f x) (f y))(l:List α):(Yc lt l).map f=Yc lt2 (l.map f):=Zay f h l []
def Wl (lt:α→α→Bool) (x y:α):Bool:= !lt x y && !lt y x
def XW (lt:α→α→Bool):α→List α→List α
 |_, []=> []
 |p,y::r=>if Wl lt y p then XW lt y r else y::XW lt y r
def WV (lt:α→α→Bool):List α→List α
 | []=> []
 |x::r=>x::XW lt x r
theorem Z8Z (f:α→β)(h:∀x y,lt x y=lt2 (f x) (f y)):∀(l:List α) (p:α),(XW lt p l).map f=XW lt2 (f p) (l.map f)
 | [],_=>rfl
 |y::r,p=>by
  have e:Wl lt y p=Wl lt2 (f y) (f p):=by unfold Wl;rw[h,h]
  simp only[XW,WQ,e];split <;> simp[Z8Z f h r]
theorem Ziz (f:α→β)(h:∀x y,lt x y=lt2 (f x) (f y))(l:List α):(WV lt l).map f=WV lt2 (l.map f):=by
 cases l with
 |nil=>rfl
 |cons x r=>simp[WV,Z8Z f h]
theorem Z6f {z:α}:∀{l:List α} {p:α},z∈XW lt p l→z∈l
 | [],_,h=>h
 |y::r,p,h=>by
  unfold XW at h;split at h;·exact XB _ (Z6f h)
  ·rcases Xy.1 h with rfl|h;·simp
   ·exact XB _ (Z6f h)
theorem ZaP {z:α}{l:List α}(h:z∈WV lt l):z∈l:=by
 cases l with
 |nil=>exact h
 |cons x r=>
  rcases Xy.1 h with rfl|h;·simp
  ·exact XB _ (Z6f h)
theorem Z7L:∀(l:List α) (p:α),(XW lt p l).length≤l.length
 | [],_=>Z4 _
 |y::r,p=>by have:=Z7L r y;unfold XW;split <;> simp <;> omega
theorem ZcU (l:List α):(WV lt l).length≤l.length:=by
 cases l with
 |nil=>exact Z4 _
 |cons x r=>have:=Z7L (lt:=lt) r x;simp[WV];omega
end
def Vz (a b:Rec):Bool:=decide (a.O<b.O∨(a.O=b.O∧(a.B<b.B∨(a.B=b.B∧a.I<b.I))))
theorem Z5k:We Vz:=by
 unfold Vz;constructor;·intro x y h;simp only[decide_eq_true_eq,decide_eq_false_iff_not]at*;omega
 ·intro x y z h a;simp only[decide_eq_true_eq,decide_eq_false_iff_not]at*;omega
 ·intro x y z h a;simp only[decide_eq_true_eq,decide_eq_false_iff_not]at*;omega
 ·intro x y z h a;simp only[decide_eq_true_eq,decide_eq_false_iff_not]at*;omega
end
section
open Go.Sort Go.Lib
variable {P:Program} {α:Type} [Inhabited α] {enc:α→List Value} {w0 W:World} {blk off N:Nat} {l:List α}
theorem Zcw (a b:Z_):∀(s:Nat) (F:Array U2),setMany F s (a++b)=setMany (setMany F s a) (s+a.length) b:=by
 induction a with
 |nil=>intro s F;rfl
 |cons v a ih=>intro s F;rw[Z0L,setMany,ih,setMany,XQ,show s+(a.length+1)=s+1+a.length from Y]
theorem Zcv (k:Nat)(e:∀x,(enc x).length=k)(d:Array α)(i:Nat)(f:i<d.size)(x:α):setMany (flatK enc k d) (i*k) (enc x)=flatK enc k (d.setIfInBounds i x):=by
 refine ext_get! Ze fun t g=>?_;have b:t<d.size*k:=by simpa using g
 have c:0<k:=by
  rcases VG k with h|h;·subst h;simp at b
  ·exact h
 rw[get_setMany _ _ _ t (by simpa using b),get_flatK _ _ _ t b,get_flatK _ _ _ t (by simpa using b),e];by_cases a:t / k=i;·rw[if_pos ((blk_iff k i t c).2 a),a,getElem!_set_same d i x f];congr 1;subst a;rw[Nat.mod_eq_sub_div_mul]
 ·rw[if_neg (fun h=>a ((blk_iff k i t c).1 h)),getElem!_set_other d i _ x a]
theorem Z8b (k:Nat)(b:∀x,(enc x).length=k):∀(L:List α) (d:Array α) (i:Nat),i+L.length≤d.size→
  ∃a:Array α,setMany (flatK enc k d) (i*k) (L.flatMap enc)=flatK enc k a∧a.toList=d.toList.take i++(L++d.toList.drop (i+L.length))
 | [],d,i,_=>⟨d,rfl,Ze⟩
 |x::L,d,i,h=>by
  simp only[XQ]at h;obtain⟨a,c,e⟩:=Z8b k b L (d.setIfInBounds i x) (i+1) Zx;refine⟨a,?_,?_⟩;·rw[Vb,Zcw,Zcv k b d i Y x,b,←c];congr 1;rw[Nat.add_mul,Nat.one_mul]
  ·rw[e,Array.toList_setIfInBounds];have f:i<d.toList.length:=Zx;rw[List.take_set,List.drop_set,if_pos Y];rw[ZR f];rw[Wn _ _ (by rw[ZK];omega),show i-(d.toList.take i).length=0 by rw[ZK];omega];simp only[YL,YH,List.singleton_append,XQ,Z0L];rw[show i+1+L.length=i+(L.length+1) from Y];rfl
theorem SWK.row {k:Nat}{a:Array α}(h:SWK enc k w0 blk off a W)(d:∀x,(enc x).length=k)(g:blk<w0.heap.size)(L:List α)(i:Nat)(c:i+L.length≤a.size):
  ∃b:Array α,SWK enc k w0 blk off b (W.setCells blk (off+i*k) (L.flatMap enc))∧b.toList=a.toList.take i++(L++a.toList.drop (i+L.length)):=by
 obtain⟨b,e,f⟩:=Z8b k d L a i c;obtain⟨n,j,rfl⟩:=h;refine⟨b,⟨n,j,?_⟩,f⟩;unfold sortWorldK;have l:(L.flatMap enc).length=L.length*k:=by
  clear e f c;induction L with
  |nil=>simp
  |cons x L ih=>rw[Vb,Zw,d,ih,XQ,Nat.add_mul,Nat.one_mul];omega
 rw[setCells_grow _ _ _ _ _ (by rw[size_putRowK];exact g)];unfold putRowK;rw[setCells_putRow _ _ _ _ _ _ (by rw[l,size_flatK,←Nat.add_mul];exact Z08 _ c),e]
theorem Zo.put {T:TypeId}(h:Zo enc w0 blk off N l W)(R:WU P T enc w0 blk off N){i:Nat}(k:i<N)(x:α):Zo enc w0 blk off N (l.set i x) (W.setCells blk (off+i*8) (enc x)):=by
 obtain⟨a,d,b,e⟩:=h;obtain⟨m,n,c⟩:=R.row;have o:d.size=N:=by rw[←Z1U,b,a]
 obtain⟨f,g,j⟩:=SWK.row e c.hk c.hblk [x] i Zx;refine⟨by simp[a],f,?_,by simpa using g⟩;rw[j,b];rw[List.set_eq_take_append_cons_drop,if_pos Y];simp
theorem Zo.zero {T:TypeId}(h:Zo enc w0 blk off N l W)(R:WU P T enc w0 blk off N){i:Nat}(k:i≤N)(z:α):
  Zo enc w0 blk off N (l.take i++List.replicate (N-i) z) (W.setCells blk (off+i*8) ((List.replicate (N-i) z).flatMap enc)):=by
 obtain⟨c,d,a,e⟩:=h;obtain⟨m,n,b⟩:=R.row;have o:d.size=N:=by rw[←Z1U,a,c]
 obtain⟨f,g,j⟩:=SWK.row e b.hk b.hblk (List.replicate (N-i) z) i Zx;refine⟨Zx,f,?_,g⟩;rw[j,a,Z11 Zx,Wo]
theorem Za9 {a:Z_}(b:a.length=8):∀n,(List.range (n*8)).map (fun i=>a.toArray[i % 8]!)=(List.replicate n ()).flatMap fun _=>a
 |0=>rfl
 |n+1=>by
  rw[Nat.add_mul,Nat.one_mul,List.range_add,ZV,Za9 b n,List.replicate_succ',Vr];congr 1;rw[WS];have e:∀i,((fun i=>a.toArray[i % 8]!) ∘ fun x=>n*8+x) i=a.toArray[i % 8]! :=fun i=>by show a.toArray[(n*8+i) % 8]! =_;rw[show(n*8+i) % 8=i % 8 from Y]
  rw[Z1O (fun i _=>e i)];match a,b with
  | [c0,c1,c2,c3,c4,c5,c6,c7],_=>simp[Wp]
theorem ZcL {P:Program}(w:U1)(t e p:TypeId)(f:U2)(a:Z_)(q:P.underlying t=some (.slice e))(r:∀w,(zeroValue e).run P w=.ok f w)(s:f.cells=a.toArray)(g:a.length=8)(x:∀v∈a,v.oneCell'=true)(b o n c:Nat)(z:0<n)
  (i:∀j,j<n*8→(w.cell? (b,o+j)).isSome=true∧w.frozen? ⟨b,o+j,none⟩=false):
  (Builtin.clear_ #[t] p #[.slice (some ⟨b,o,none⟩) n c]).run P w=.ok (.tuple #[]) (w.setCells b o ((List.replicate n ()).flatMap fun _=>a)):=by
 have y:(Builtin.zeroCells f.cells n).toList=(List.replicate n ()).flatMap fun _=>a:=by rw[s];simp only[Builtin.zeroCells,Array.toList_map,Z1P,List.size_toArray,g];exact Za9 g n
 have k:((List.replicate n ()).flatMap fun _=>a).length=n*8:=by simp[g]
 have l:=run_storeCells_cells (P:=P) b o ((List.replicate n ()).flatMap fun _=>a) 0 w (by rw[k];intro j h;simpa using(i j h).1) (by rw[k];intro j h;simpa using(i j h).2) (by intro v d;simp only[List.mem_flatMap]at d;obtain⟨_,_,d⟩:=d;exact x v d);simp only[XV]at l;obtain⟨m,rfl⟩:∃m,n=m+1:=⟨n-1,Y⟩;simp[Builtin.clear_,run_underlying q,r,y,l]
theorem Zo.ld' {T:TypeId}(h:Zo enc w0 blk off N l W)(R:WU P T enc w0 blk off N){i a:Nat}{x:α}(b:l[i]? =some x)(c:a=off+i*8):
  (Instr.loadAt T (.pointer (some ⟨blk,a,none⟩))).run P W=.ok (.agg (enc x).toArray) W:=by subst c;exact h.ld R b
def EqL (P:Program) (a:Nat) (enc:α→Z_) (b:α→α→Bool) (w0:U1) (blk off N:Nat):Prop:=
 ∀(l:List α) (W:U1),Zo enc w0 blk off N l W→∀x y,Calls P a #[.agg (enc x).toArray,.agg (enc y).toArray] W fun e c=>e=.returned (.bool (Wl b x y))∧Zo enc w0 blk off N l c
def Zkd (enc:α→Z_) (w0:U1) (blk off N c:Nat) (a:α→α→Bool) (l:List α) (e:Ending) (d:U1):Prop:=
 ∃(b:List α) (n:Nat),e=.returned (.slice (some ⟨blk,off,none⟩) n c)∧Zo enc w0 blk off N b d∧n=(WV a l).length∧b.take n=WV a l∧n≤N
theorem Zey (z:α)(n:Nat):((List.replicate n ()).flatMap fun _=>enc z)=(List.replicate n z).flatMap enc:=by
 induction n with
 |zero=>rfl
 |succ n ih=>rw[Z3H,Z3H,Vb,Vb,ih]
theorem getD_some {i:Nat}(h:i<l.length):l[i]? =some (l[i]!):=by rw[getElem!_pos l i h,Z7]
end
theorem ZhH {H:Type}{a b:Bool}(h:(DataW.lit (.bool a):DataW H)=.lit (.bool b)):a=b:=by injection h with h;injection h
theorem Z50:Maps.Keyed prog 243:=Maps.Keyed.of_law (deep_law_laid Zi (m:=2) Y (of_decide_eq_true Zi) Zi (by rw[underlying243]))
def VZ (r:Rec):U2:= .agg #[.int .i64 r.O,.int .i64 r.B,.int .i64 r.I]
def K64 (r:Rec):Prop:=(-9223372036854775808≤r.O∧r.O≤9223372036854775807)∧(-9223372036854775808≤r.B∧r.B≤9223372036854775807)∧(-9223372036854775808≤r.I∧r.I≤9223372036854775807)
theorem Zf8 (d:Nat)(a b c:Int)(f:(Lit.int .i64 a).wf=true)(g:(Lit.int .i64 b).wf=true)(h:(Lit.int .i64 c).wf=true):Program.keyLits prog (d+2) 243 [a,b,c]=some [.int .i64 a,.int .i64 b,.int .i64 c]:=by
 have i:Program.cellsOf prog 243=3:=Zi;have j:Program.cellsOf prog 3=1:=Zi;have e:∀z:Int,(Lit.int .i64 z).wf=true→Program.keyLits prog (d+1) 3 [z]=some [.int .i64 z]:=fun z k=>by unfold Program.keyLits;rw[underlying3];simp[k]
 unfold Program.keyLits;rw[underlying243];simp[i,j,e a f,e b g,e c h]
theorem ZaB (r:Rec)(h:K64 r):∃l,keyOf prog 243 (VZ r)=some l:=by
 unfold K64 at h;have c:Program.keyType prog 243=true:=Zi;have d:(VZ r).formed prog 243=true:=by simp[VZ,Value.formed,underlying243,show Program.cellsOf prog 243=3 from Zi]
 have a:∀z:Int,(-9223372036854775808≤z∧z≤9223372036854775807)→(Lit.int .i64 z).wf=true:=fun z b=>by unfold Lit.wf;simp only[show IntKind.i64.min= -9223372036854775808 by rfl,show IntKind.i64.max=9223372036854775807 by rfl];simp[b]
 have b:(prog).types.size+1=454+2:=Zi;have e:=Zf8 454 r.O r.B r.I (a _ h.1) (a _ h.2.1) (a _ h.2.2);unfold keyOf;rw[underlying243];simp only[c,d,Bool.and_self,if_true];rw[b,show(VZ r).cells.toList=[.int .i64 r.O,.int .i64 r.B,.int .i64 r.I] by rfl,e];exact⟨_,rfl⟩
theorem Zgs {r q:Rec}{l:Lit}(a:keyOf prog 243 (VZ r)=some l)(b:keyOf prog 243 (VZ q)=some l):q.O=r.O∧q.B=r.B∧q.I=r.I:=by have:=Z50.inj a b;unfold VZ at this;simp only[Value.agg.injEq,Array.mk.injEq,List.cons.injEq,Value.int.injEq,true_and,and_true]at this;exact⟨this.1.symm,this.2.1.symm,this.2.2.symm⟩
def Z1o {H:Type} (D:DataW H) (l:List Rec):Prop:=Maps.IsMap D∧∀r a,keyOf prog 243 (VZ r)=some a→∃b:Bool,D.atKey a (.lit (.bool false))=.lit (.bool b)∧(b=true↔∃q∈l,q.O=r.O∧q.B=r.B∧q.I=r.I)
theorem Z1o.nil_ {H:Type}:Z1o (.map []:DataW H) []:=⟨⟨[],rfl⟩,fun m _ _=>⟨false,rfl,Ze⟩⟩
theorem Z1o.put_ {H:Type}{D:DataW H}{l:List Rec}{m:Rec}{f:Lit}(h:Z1o D l)(c:keyOf prog 243 (VZ m)=some f):Z1o (D.put f (.lit (.bool true))) (l++ [m]):=by
 have j:WideAt.IsKeyLit f:=Z50.key c;refine⟨Maps.IsMap.put h.1 _ _,fun q i g=>?_⟩;by_cases e:i=f;·subst e;exact⟨true,Maps.atKey_put_same h.1 j _ _,by simp;exact .inr (Zgs g c)⟩
 ·obtain⟨b,k,n⟩:=h.2 q i g;refine⟨b,by rw[Maps.atKey_put_other e,k],?_⟩;rw[n];constructor;·rintro⟨y,a,d⟩;exact⟨y,Z16 _ a,d⟩
  ·rintro⟨y,a,d⟩;rcases YZ.1 a with a|a;·exact⟨y,a,d⟩
   ·rw[Yn]at a;subst a;have o:VZ y=VZ q:=(by unfold VZ;rw[d.1,d.2.1,d.2.2]);rw[o,g]at c;injection c with c;exact absurd c e
