/- Number Choose LtC LtD InaA InaB InaC InaD -/
import Derived.Test.YtpokipdpjhookaaGreatDoorBTopRetires09
import Derived.Test.YtpokipdpjhookaaGreatDoorBTopRetires10
import Derived.Test.YtpokipdpjhookaaGreatDoorBTopRetires11
set_option maxHeartbeats 8000000
set_option maxRecDepth 20000
set_option linter.all false
namespace Go.Proofs
open Go Go.RowKit Tryz
variable {w:World} {n m k i:Nat} {t:TypeId} {x:Value} {r:List Byte} {c:Int} {s:List Int} {l:List Value} {A:Option Addr}
theorem ZeO (h:w.ownsRow n t 1 x m (r.map Za++ [.int .u8 c])){b:Byte}(a:(b.toNat:Int)=c):w.ownsRow n t 1 x m ((r++ [b]).map Za):=by rw[ZV,WQ,Z07,Za,a];exact h
theorem Zjj (m x:Nat)(a:m<16777216)(c:x<256):bits .or .i64 ((m:Int)*256) (x:Int)=m*256+(x:Int):=by show IntKind.i64.wrap ((BitVec.ofInt 64 ((m:Int)*256) |||BitVec.ofInt 64 (x:Int)).toNat:Int)=_;have e:(m:Int)*256=((m*256:Nat):Int):=Y;rw[e,BitVec.ofInt_natCast,BitVec.ofInt_natCast,BitVec.toNat_or,Z2Y,Z2Y,Z2R Y,Z2R Y];have h:=Nat.two_pow_add_eq_or_of_lt (i:=8) (b:=x) Y m;rw[show m*256=2 ^ 8*m from Y,←h,Xe];omega
theorem Zdi (a:Nat)(A:X_)(n c:Nat)(l:Y_)(x:Int)(k:Nat)(w:U1)(b:w.ownsRow a 5 1 (.slice A n c) n (l.map Za))(O:n≤1048576)(P:a≤w)(Q: -9223372036854775808≤x∧x≤9223372036854775807)(R:k≤7):
  Calls prog 210 #[.slice A n c,.int .i64 x,.int .i64 k] w fun e g=>∃h o,e=.returned (.slice h (n+k) o)∧g.ownsRow a 5 1 (.slice h (n+k) o) (n+k) ((l++ZN k x).map Za)∧Below a w g:=by
 obtain⟨q,r,s,t,y⟩:=info_parts WP;go_enter func210,ntmps210;go_wp2;go_loopw [0,7] (fun v i wr=>∃(j:Nat) (A:X_) (m c:Nat) (d:Y_),j≤k∧m+j=n+k∧i=.int .i64 ((j:Int)-1)∧v=.slice A m c∧d++ZN j x=l++ZN k x∧wr.ownsRow a 5 1 (.slice A m c) m (d.map Za)∧Below a w wr) (fun _ i _=>(intOf i+1).toNat)
 ·exact⟨k,A,n,c,l,Y,rfl,rfl,rfl,rfl,b,Z8 _ _⟩
 ·obtain⟨j,A,m,c,d,S,T,rfl,rfl,p,b,f⟩:=hrel;have z:a≤wr:=Zc f.size;by_cases U:0<j
  ·obtain⟨i,rfl⟩:∃i,j=i+1:=⟨j-1,Y⟩;have B:=Z p;have C:((i+1:Nat):Int)-1=(i:Int):=Y;rw[C];have D:=Z (Z0c x i);have V:IntKind.i64.wrap (8*(i:Int))=8*(i:Int):=(by rw[Xe];omega);go_wp2_with (at_builtin;go_must (refine Y5 rfl (.tmp 14) (.tmp 20) 32 rfl a 5 q (.int .u8 0) 1 1 underlying32 r s t y rfl Y (.slice A m c) m _ rfl (b.alloc _) _ _ 1 1 _ rfl (Sl.fresh _ _ _ _ 1 rfl) (by simp[Value.oneCell']) (m+1) Y _ rfl Y Y Zx ?_);intro E F G H I _)
   have J:Below a w G:=Y9 (f.alloc z _) (b.alloc _) I (Z4 _) Zx;go_roundw;·exact⟨i,E,m+1,F,d++ [Yg x i],Y,Y,rfl,rfl,by rw[←B,YH];rfl,ZeO H D,J⟩
   ·simp[intOf]
  ·have L:j=0:=Y;subst L;obtain rfl:m=n+k:=Y;have W:¬(0:Int)≤ -1:=Y;have M:d=l++ZN k x:=(by simpa[ZN]using p);have N:=Z M;go_wp2;go_ret;exact⟨A,c,rfl,by rw[←ZV,←N];exact b,f⟩
theorem Zgh (B:Nat)(A:X_)(l:Y_)(n c:Nat)(w:U1)(h:Sl w B 1 A n (l.map Za))(I:n≤4)(r:Int)(g:YX l=r):
  Calls prog 230 #[(A,n,c)] w fun e C=>e=.returned r∧C=w:=by
 have p:l.length=n:=by have:=h.len;simpa using this
 have a:=Z p;have D:=Z g;clear p g;go_enter func230,ntmps230;go_wp2;go_loopw [3,8] (fun v i wr=>∃j:Nat,j≤n∧i=.int .i64 j∧v=.int .i64 (YX (l.take j))∧wr=w) (fun _ i _=>n-(intOf i).toNat)
 ·exact⟨0,Y,rfl,rfl,rfl⟩
 ·obtain⟨j,J,rfl,rfl,rfl⟩:=hrel;by_cases d:j<n
  ·obtain⟨b,o,rfl,_,s⟩:=h.get (k:=j) d (XF l j (a ▸ d));have t:=Z8n (l.take j);have E:(256:Int) ^ (l.take j).length≤16777216:=by
    have:(l.take j).length≤3:=(by rw[ZK];omega);generalize (l.take j).length=q at this;obtain rfl|rfl|rfl|rfl:q=0∨q=1∨q=2∨q=3:=Y
    all_goals decide
   have y:YX (l.take (j+1))=YX (l.take j)*256+((l.getD j 0).toNat:Int):=(by rw[List.take_add_one,Z7 (a ▸ d),Option.toList_some,ZeX];simp[Z6,Z7 (show j<l.length by rw[a.out];exact d)]);have z:=Z y;clear y;generalize l.getD j 0=x at*;obtain⟨m,f⟩:∃m:Nat,YX (l.take j)=(m:Int):=⟨(YX (l.take j)).toNat,Y⟩;rw[f]at t z ⊢;have L:=Z f;clear f;have F:m<16777216:=Y;have G:=x.isLt;have M:wr.cell? (b,o+j)=some (.int .u8 (x.toNat:Int)):=s;clear s t E;go_wp2_with fail;rw[Zjj m _ F G,←z];exact⟨⟨j+1,Y,Zg,rfl,trivial⟩,by simp[intOf];omega⟩
  ·obtain rfl:j=n:=Y;have H:=Z (show YX (l.take j)=r by rw[ZP (by rw[a];exact Z4 _)];exact D);rw[H];go_wp2;go_ret;exact⟨rfl,rfl⟩
theorem Z4T (a:Nat)(A:X_)(n c:Nat)(l:Y_)(x:Int)(k:Nat)(w:U1)(m:Nat)(L:Y_)(g:n+k=m)(h:l++ZN k x=L)(i:w.ownsRow a 5 1 (.slice A n c) n (l.map Za))(j:n≤1048576)(o:a≤w)(p: -9223372036854775808≤x∧x≤9223372036854775807)(q:k≤7):
  Calls prog 210 #[.slice A n c,.int .i64 x,.int .i64 k] w fun e b=>∃d f,e=.returned (.slice d m f)∧b.ownsRow a 5 1 (.slice d m f) m (L.map Za)∧Below a w b:=by
 subst g h;exact Zdi a A n c l x k w i j o p q
theorem Sl.sub (h:Sl w n 1 (some ⟨k,i,none⟩) m (r.map Za))(a c:Nat)(s:a+c≤m):Sl w n 1 (some ⟨k,i+a,none⟩) c (((r.drop a).take c).map Za):=by
 have t:r.length=m:=by have:=h.len;simpa using this
 refine⟨Zx,fun v=>?_⟩;obtain⟨b,o,e,f,g⟩:=h.at_ Y;injection e with e;injection e with l p;subst l p;refine⟨k,i+a,rfl,f,fun j u d=>?_⟩;have q:j<c:=by have:=(Z4m.1 d).1;simp at this;omega
 have:=g (a+j) u (by rw[←d];simp[ZO,Z0K,q,Z0o]);rw[←VU]at this;exact this
theorem Z2J (h:Sl w n 1 (some ⟨k,i,none⟩) m (r.map Za))(a b c:Nat)(f:a+b≤m)(g:b≤4)(d:Int)(j:YX ((r.drop a).take b)=d):
  Calls prog 230 #[.slice (some ⟨k,i+a,none⟩) b c] w fun e l=>e=.returned d∧l=w:=
 Zgh n _ _ b c w (h.sub a b f) g d j
def Z1Z (n k:Nat):Z_:=(List.range k).map ZM++List.replicate (n-k) (Value.int .i64 0)
theorem Zg1 (n k:Nat)(h:k≤n):(Z1Z n k).length=n:=by unfold Z1Z;simp;omega
theorem ZhK (n k:Nat)(h:k<n):(Z1Z n k).set k (k:Int)=Z1Z n (k+1):=by unfold Z1Z;have a:((List.range k).map ZM).length=k:=Ze;rw[Wn _ _ Y,a,W9,Wp,ZV,YH];congr 1;rw[show n-k=(n-(k+1))+1 from Y,Z3H,YL];rfl
theorem Zgf (n:Nat):Z1Z n n=(List.range n).map ZM:=by unfold Z1Z;rw[W9,List.replicate_zero,Wo]
theorem ZjN (l:List Nat)(i j:Nat)(a:i<l.length)(b:j<l.length):((l.map ZM).set i (ZM (l.getD j 0))).set j (ZM (l.getD i 0))=(swN l i j).map ZM:=by unfold swN;rw[XZ,XZ]
theorem Zjk (n a:Nat)(b:a<18446744073709551616):∀k,(Vo n k (a,List.range n)).1<18446744073709551616
 |0=>b
 |k+1=>Z3V _
theorem ZgN (g a n k:Nat)(w:U1)(J:Dw w g a)(ha:a<18446744073709551616)(hn:n≤64)(hk:k≤n):
  Calls prog 229 #[(g,()),(n:Int),(k:Int)] w fun e L=>∃A c,e=.returned (.slice A k c)∧L.ownsRow w 3 1 (A,k,c) k ((Z1R ((Vo n k (a,List.range n)).2.take k)).map ZM)∧
   Dw L g (Vo n k (a,List.range n)).1∧Only (fun q=>q=g) w L:=by
 obtain⟨i0,aj,ak,al,am⟩:=info_parts VC;have aL:=J.lt;have HD:=J;obtain⟨d,M⟩:=Zb w.heap.size;have N:g≠d:=Y;rw[M];have v:=Z M;clear J M;go_enter func229,ntmps229;go_wp2_with ((at_make;refine Z0E _ rfl (.tmp 27) (.tmp 27) 22 rfl 3 i0 Nat 8 underlying22 aj ak al am rfl .i64 .i64 _ _ n n rfl rfl rfl Y Y Y Y ?_;intro w1 O P s1))
 rw[v]at O P s1 ⊢;have R0:Row w1 d 3 (Z1Z n 0):=O;clear O;go_loopw [31] (fun q wr=>∃i:Nat,i≤n∧q=.int .i64 (i:Int)∧Hid (Row wr d 3 (Z1Z n i))∧Hid (Below d w wr)) (fun q _=>n-(intOf q).toNat)
 ·exact⟨0,Y,rfl,R0,Z P⟩
 ·obtain⟨i,an,rfl,o,C⟩:=hrel;by_cases a0:i<n
  ·have aM:(i:Int)<(n:Int):=Y;have f1:=o.frozen i;have c1:=o.cell i;rw[Z7 (by rw[Zg1 n i an];exact a0)]at c1;have HS:=o.set i (i:Int);rw[ZhK n i a0]at HS;have ao:=C.setCell (p:=(⟨d,i,none⟩:U3)) (Z4 d) (i:Int);go_wp2;go_roundw;·exact⟨i+1,Y,Zg,HS,ao⟩
   ·exact Zh
  ·have ap:i=n:=Y;subst ap;have a1:=o.out;rw[Zgf]at a1;have aq:Dw wr g a:=HD.below C (Zc v.out);have ar:Only (fun q=>q=g) w wr:=Only.of_new (by rw[v];exact C);have h9:¬(i:Int)<(i:Int):=Y;clear o C R0 HD P;go_wp2;go_loopw [40] (fun q Q=>∃j:Nat,j≤k∧q=.int .i64 (j:Int)∧Hid (Row Q d 3 ((Vo i j (a,List.range i)).2.map ZM))∧Hid (Dw Q g (Vo i j (a,List.range i)).1)∧Hid (Only (fun q=>q=g) w Q)) (fun q _=>k-(intOf q).toNat)
   ·exact⟨0,Y,rfl,a1,aq,ar⟩
   ·obtain⟨j,aO,rfl,D,E,a2⟩:=hrel;have a3:=Zjk i a ha j;have r:=Z5o i a j Y;obtain⟨S,hS⟩:=Zb (Vo i j (a,List.range i));rw[hS]at D E a3 r;have a4:=Z hS;clear hS;by_cases aP:j<k
    ·have aQ:(j:Int)<(k:Int):=Y;have av:(i:Int)-j=((i-j:Nat):Int):=Y;obtain⟨q,R⟩:=Zb (i-j);rw[R]at av;have a5:0<q:=Y;have HQ:=Z R;clear R;go_wp2_with fail;refine(Z8q g S.1 q _ E a3 a5 Y).mono ?_;rintro e f ⟨rfl,aw,T⟩;have ax:XH (Yd S.1) % q<q:=Vv _ a5;obtain⟨z,U⟩:=Zb (XH (Yd S.1) % q);rw[U]at ax ⊢;obtain⟨p,hp⟩:=Zb (j+z);have aR:(j:Int)+z=(p:Int):=Y;have a6:p<i:=Zc HQ.out;have l:Row f d 3 (S.2.map ZM):=D.only T (fun e=>N e.symm);have s:S.2.length=i:=r.len;have G:=l.cell p;have H:=l.cell j;rw[Z3B _ _ (by rw[s];exact a6)]at G;rw[Z3B _ _ (by rw[s];omega)]at H;have I:=(l.set j (ZM (S.2.getD p 0))).set p (ZM (S.2.getD j 0));rw[ZjN S.2 j p (by rw[s];omega) (by rw[s];exact a6)]at I;have a7:Vo i (j+1) (a,List.range i)=(Yd S.1,swN S.2 j p):=(by rw[Vo,a4,HQ,U,hp]);obtain⟨y,hy⟩:=Zb (S.2.getD p 0);obtain⟨x,hx⟩:=Zb (S.2.getD j 0);rw[hy]at G I;rw[hx]at H I;have fz:∀q,f.frozen? ⟨d,q,none⟩=false:=fun q=>l.frozen q;have a8:∀q,(f.setCell (d,j) (y:Int)).frozen? ⟨d,q,none⟩=false:=fun q=>(l.set j (y:Int)).frozen q;obtain⟨u2,ay⟩:∃u,(f.setCell ⟨d,j,none⟩ (.int .i64 (y:Int))).cell? ⟨d,p,none⟩=some u:=by rw[(l.set j (y:Int)).cell p];exact⟨_,Z7 Zx⟩
     have a9:=Z a7;have az:=(a2.trans T (fun _ _ h=>h));have aB:(j:Int)<(i:Int):=Y;have aT:(p:Int)<(i:Int):=Y;clear U hp l a7 hy hx T r;go_wp2_with fail;refine oS [13,15] (fun wx=>wx.cell? ⟨d,p,none⟩=some (.int .i64 (y:Int))∧wx.cell? ⟨d,j,none⟩=some (.int .i64 (x:Int))) [0,1,2,3,4,5,6,7,8,9,10,11,12,13,14,15] (⟨G,H⟩) fun hS=>?_;refine oV ?_;refine oV ?_;refine oF ?_;refine oF ?_;(iterate 9 refine oV ?_);refine oM 13 fun K hK=>?_;have f1:=fz j;go_simp;refine oL hK ?_;refine oF ?_ (sP 13);refine oM 13 fun K hK=>?_;have f2:=a8 p;go_simp;refine oL hK ?_;refine oD ?_;change (Exit.inBlock _ (Exit.then _ _)) Exit.normal _ (((f.drewN 1).setCell (d,j) (y:Int)).setCell (d,p) (x:Int));have aa:Row (((f.drewN 1).setCell (d,j) (y:Int)).setCell (d,p) (x:Int)) d 3 ((swN S.2 j p).map ZM):=I;have ab:Dw (((f.drewN 1).setCell (d,j) (y:Int)).setCell (d,p) (x:Int)) g (Yd S.1):=(Row.far (Row.far (Row.drewN aw 1) N _) N _);have ac:Only (fun q=>q=g) w (((f.drewN 1).setCell (d,j) (y:Int)).setCell (d,p) (x:Int)):=(by have t:=az.drewN 1;refine⟨t.os,t.tape,t.output,by simpa[World.setCell]using t.size,fun b hb aC=>?_⟩;have ad:b≠d:=Zc v.out;exact(Below.heap_setCell _ ⟨d,p,none⟩ _ b ad).trans ((Below.heap_setCell _ ⟨d,j,none⟩ _ b ad).trans (t.block b hb aC)));generalize ((f.drewN 1).setCell (d,j) (y:Int)).setCell (d,p) (x:Int)=w3 at aa ab ac ⊢;clear fz a8 ay f1 f2 G H;go_wp2;go_roundw;·exact⟨j+1,Y,Zg,by rw[a9];exact aa,by rw[a9];exact ab,ac⟩
     ·exact Zh
    ·have aD:j=k:=Y;subst aD;have s:S.2.length=i:=r.len;have h8:¬(j:Int)<(j:Int):=Y;have aE:Sl wr (d+1) 1 (some ⟨d,0,none⟩) j ((S.2.take j).map ZM):=(by have:=D.sl (B:=d+1) (m:=j) Y Zx;rwa [←Z1M]at this);have aB:j≤i:=Y;clear r;have aF:d+1≤wr.heap.size:=D.lt;go_wp2_with fail;refine(Z4K (d+1) (some ⟨d,0,none⟩) j i _ _ aE (fun u hu=>by obtain⟨x,_,rfl⟩:=ZT.1 hu;rfl) aF Y).mono ?_;rintro e w5 ⟨V,W,rfl,ae,af⟩;have ag:w5.ownsRow wr 3 1 (V,j,W) j (((S.2.take j).map Int.ofNat).map iv):=(by rw[WS];exact ae);clear ae;go_wp2_with fail;refine(Z6a _ V j W _ _ ag Y).mono ?_;rintro e w6 ⟨rfl,ah,aG⟩;have ai:Below wr wr w6:=Y9 af ag aG (Z4 _) af.size;have aH:XI ((S.2.take j).map Int.ofNat)=(Z1R (S.2.take j)).map Int.ofNat:=(by refine Z8x ((Z3k _).trans ((Z3R _).symm.map _)) (Z7Z _) ?_;rw[List.pairwise_map];exact(Z5M _).imp fun h=>Int.ofNat_le.2 h);rw[aH,WS]at ah;have aI:Dw w6 g S.1:=Row.below E ai E.lt;have aJ:Only (fun q=>q=g) w w6:=a2.trans (Only.of_new (F:=fun q=>q=g) ai) (fun _ _ h=>h);have aK:d≤wr:=Y;go_wp2;go_ret;rw[a4];exact⟨V,W,rfl,ZA ah aK,aI,aJ⟩
theorem ZgX:∀n,n≤20→1≤n→0<Xr n n:=by decide+kernel
theorem Zc8 (n x:Nat):Vk (X7 n) x≤n:=by
 have:=Z7g (X7 n) x;have a:(X7 n).length=n:=by simp[X7]
 omega
theorem Zkg (a b:Nat)(c:a<4294967296)(d:b<4294967296):bits .xor .u32 (a:Int) (b:Int)=((a ^^^ b:Nat):Int):=by rw[u32_xor_nat _ _ c d]
theorem Xn (w:U1)(o:Obj):(w.alloc o).heap.size=w.heap.size+1:=by simp[World.alloc_eq]
theorem Z3W (p:Zf)(a:p.Ok)(n:Nat)(b:p.K+p.H=(n:Int))(w:U1):Calls prog 217 #[p.val] w fun e d=>e=.returned (n:Int)∧Below w w d:=by have h:=a;unfold Zf.Ok at h;have f:=a;have g:=Ye.new w p 25;obtain⟨K,H,S⟩:=p;dsimp only at h b;have i:=Z b;unfold Zf.val;go_enter func217,ntmps217;go_wp2_with fail;refine(V9 ⟨K,H,S⟩ true _ (Zf.ok_may f)).mono ?_;rintro e j ⟨rfl,c⟩;obtain⟨k,l,m⟩:=g.keep c (by rw[Xn];omega);dsimp only at k l m;have o:Below w w j:=((Z8 _ _).alloc (Z4 _) _).trans (c.mono (by rw[Xn];omega));go_wp2;go_ret;exact⟨YP (Zc i.out),o⟩
theorem Z4I (p:Zf)(r:p.Ok)(n s a:Nat)(t:p.K+p.H=(n:Int))(w:U1)(N:s<4294967296)(am:a≤65535):Calls prog 156 #[p.val,.int .u32 (s:Int),(a:Int)] w fun e O=>∃A c,e=.returned (.slice A (YQ n s a).length c)∧
  O.ownsRow w 3 1 (.slice A (YQ n s a).length c) (YQ n s a).length ((YQ n s a).map iv)∧Below w w O:=by
 have h:=r;unfold Zf.Ok at h;have P:=r;have Q:=Ye.new w p 25;obtain⟨f,v⟩:∃g,w.heap.size=g:=⟨_,rfl⟩;rw[v]at Q ⊢;have l:=Z v;obtain⟨K,H,S⟩:=p;dsimp only at h t;have HN:=Z t;unfold Zf.val;have an:2≤n∧n≤20:=Y;clear r t v;go_enter func156,ntmps156;go_wp2_with fail;rw[l];refine(V9 ⟨K,H,S⟩ true _ (Zf.ok_may P)).mono ?_;rintro e w1 ⟨rfl,i⟩;rw[Xn,l]at i;have a4:=Q.keep i Y;obtain⟨c0,c1,c2⟩:=a4;dsimp only at c0 c1 c2;have a5:Below f w w1:=((Z8 _ _).alloc (by rw[l];omega) _).trans (i.mono Y);have a6:=i.size;rw[Xn,l]at a6;clear i;go_wp2_with fail;refine(Z3W ⟨K,H,S⟩ P n HN _).mono ?_;rintro e w2 ⟨rfl,z⟩;have a7:=a5.trans (z.mono Y);have ao:=z.size;clear z;go_wp2_with fail;have R:bits .xor .u32 (s:Int) ((a:Int)*2654435761 % 4294967296)=((s ^^^ (a*2654435761 % 4294967296):Nat):Int):=by rw[show(a:Int)*2654435761 % 4294967296=((a*2654435761 % 4294967296:Nat):Int) from Y];exact Zkg s _ N (Vv _ Y)
 rw[R];have T:s ^^^ (a*2654435761 % 4294967296)<4294967296:=Nat.xor_lt_two_pow (n:=32) N (Vv _ Y);have C:YQ n s a=(Z1R ((Vo n (Vk (X7 n) (XH (Yd (Yd (s ^^^ (a*2654435761 % 4294967296)))) % Xr n n)) (Yd (Yd (s ^^^ (a*2654435761 % 4294967296))),List.range n)).2.take (Vk (X7 n) (XH (Yd (Yd (s ^^^ (a*2654435761 % 4294967296)))) % Xr n n)))).map Int.ofNat:=rfl;clear R;obtain⟨x,U⟩:=Zb (s ^^^ (a*2654435761 % 4294967296));rw[U]at T C ⊢;have j:=Z C;clear U C;refine(Zcu x _ T).mono ?_;rintro e w3 ⟨g,rfl,ap,a8,D⟩;have a9:=a7.trans (D.mono Y);have aq:=D.size;clear D;go_wp2_with fail;refine(Z9f g x _ a8 Y).mono ?_;rintro e w4 ⟨rfl,E,F⟩;have aa:=a9.trans (F.below (B:=f) (fun q e=>by subst e;omega) Y);have ar:=F.size;have V:Yd x<18446744073709551616:=Z3V x;have W:Yd (Yd x)<18446744073709551616:=Z3V _;have ab:g<w4:=E.lt;clear F;obtain⟨y,hy⟩:=Zb (Yd x);rw[hy]at E V W j ⊢;clear hy;go_wp2_with fail;refine(Zei n _ Y).mono ?_;rintro e w5 ⟨A5,c5,rfl,G,m⟩;have ac:Dw w5 g y:=Row.below E m ab;have ad:∀b o,A5=some ⟨b,o,none⟩→b≠g:=fun b o d=>by
  rcases Z2E G with ⟨I,_⟩|⟨q,I,h2,_⟩;·rw[I]at d;cases d
  ·rw[I]at d;injection d with d;injection d with d _ _;omega
 have ae:=Sl.own G;have af:=aa.trans (m.mono Y);have av:=m.size;clear G m;go_wp2_with fail;refine(Zfi g y n w5 A5 c5 _ ac V ae Y ad (ZgX n Y Y)).mono ?_;rintro e w6 ⟨rfl,ag,J⟩;have L:Vk (X7 n) (XH (Yd y) % Xr n n)≤n:=Zc8 n _;obtain⟨k,a0⟩:=Zb (Vk (X7 n) (XH (Yd y) % Xr n n));rw[a0]at L j ⊢;have ah:=af.trans (J.below (B:=f) (fun q e=>by subst e;omega) Y);have aw:=J.size;clear J a0;go_wp2_with fail;refine(ZgN g (Yd y) n k _ ag W Y L).mono ?_;rintro e w7 ⟨A7,c7,rfl,M,ai,a1⟩;have aj:=ah.trans (a1.below (B:=f) (fun q e=>by subst e;omega) Y);have a2:(YQ n s a).length=k:=by rw[j,Zz,(Z3R _).length_eq,ZK,(Z5o n _ k L).len];omega
 have a3:(YQ n s a).map iv=(Z1R ((Vo n k (Yd y,List.range n)).2.take k)).map ZM:=by rw[j,WS];rfl
 rw[←a3]at M;have ak:=ZA (base':=f) M Y;have al:=Z a2;clear M ai a1 a3 a2 j;go_wp2;go_ret;rw[al];exact⟨A7,c7,rfl,ak,aj⟩
def Z1y (n:Nat) (a:W_) (k:Nat):Y_:=(a.take k).foldl (fun r c=>r.set c.toNat 1) (List.replicate n 0)
theorem Z8R (h:m<s.length):Z1y n s (m+1)=(Z1y n s m).set (s.getD m 0).toNat 1:=by unfold Z1y;rw[ZR h,Z2m,Z6,Z7 h];rfl
theorem Z6M (n:Nat)(a:W_):∀k,k≤a.length→(Z1y n a k).length=n
 |0,_=>by simp[Z1y]
 |k+1,h=>by rw[Z8R Y,Ya,Z6M n a k Y]
theorem Z9Q (n:Nat)(a:W_):Z1y n a a.length=VE n a:=by unfold Z1y VE;rw[Xm]
theorem Xx (l:W_)(k:Nat)(h:k<l.length):(l.map iv)[k]? =some (.int .i64 (l.getD k 0)):=by rw[ZO,Z6,Z7 h];rfl
theorem Zel (p:Zf)(J:p.Ok)(n s c:Nat)(L:p.K+p.H=(n:Int))(w:U1)(hs:s<4294967296)(a7:c≤65535):Calls prog 257 #[p.val,.int .u32 (s:Int),(c:Int)] w fun e w'=>∃g,e=.returned (g,n,n)∧
  w.heap.size≤g∧Row w' g 5 ((VE n (YQ n s c)).map Za)∧Below w w w':=by
 obtain⟨i0,a8,a9,aa,ab⟩:=info_parts WP;have h:=J;unfold Zf.Ok at h;have M:=Z J;have HC:=Z (Ye.new w p 25);obtain⟨N,O⟩:∃g,w.heap.size=g:=⟨_,rfl⟩;rw[O]at HC ⊢;have t:=Z O;obtain⟨K,H,S⟩:=p;dsimp only at h L;have HN:=Z L;unfold Zf.val;have aw:2≤n∧n≤20:=Y;clear J L O;go_enter func257,ntmps257;go_wp2_with fail;rw[t];refine(V9 ⟨K,H,S⟩ true _ (Zf.ok_may M)).mono ?_;rintro e w1 ⟨rfl,f⟩;rw[Xn,t]at f;have a0:=Z (HC.keep f Y);obtain⟨c0,P,c2⟩:=a0.out;dsimp only at c0 P c2;have b1:Below N w w1:=((Z8 _ _).alloc (by rw[t];omega) _).trans (f.mono Y);have ac:=Z b1;have ad:=f.size;rw[Xn,t]at ad;clear b1 f;go_wp2_with fail;refine(Z3W ⟨K,H,S⟩ M n HN _).mono ?_;rintro e w2 ⟨rfl,v⟩;have a1:=Z (a0.keep v Y);obtain⟨d0,d1,d2⟩:=a1.out;dsimp only at d0 d1 d2;have ae:=Z (ac.trans (v.mono Y));have ax:=v.size;clear v c0 P c2;obtain⟨d,a2⟩:∃g,w2.heap.size=g:=⟨_,rfl⟩;go_wp2_with ((at_make;refine Z0E _ rfl (.tmp 22) (.tmp 22) 32 rfl 5 i0 (.int .u8 0) 1 underlying32 a8 a9 aa ab rfl .i64 .i64 _ _ n n rfl rfl rfl Y Y Y Y ?_;intro w3 x y s3;rw[a2]at x y s3;have af:=Z (a1.keep y Y);obtain⟨e0,A,j⟩:=af;dsimp only at e0 A j))
 have ag:=Z (ae.trans (y.mono Y));have R3:=Z x;have ah:=x.lt;have ay:N+1≤d:=Y;clear x y d0 d1 d2 a2;refine(Z4I ⟨K,H,S⟩ M n s c HN _ hs a7).mono ?_;rintro e w4 ⟨A4,c4,rfl,C,D⟩;obtain⟨a,Q⟩:=Zb (YQ n s c);have R:=(Z0D n s c).1;have a3:=Z4X n s c;rw[Q]at C R a3 ⊢;have ai:=Z Q;have R4:=Z (R3.below D ah);have a4:=Z (Sl.own C);have a5:=Z2E C;have aj:=Z (ag.trans (D.mono Y));have az:=D.size;have ak:=Z R;clear C D Q R;obtain⟨m,T⟩:=Zb a.length;rw[T]at a4 a5 a3 ⊢;have l:=Z T;clear T;go_wp2;go_loopw [29] (fun i wr=>∃k:Nat,k≤m∧i=.int .i64 (k:Int)∧Hid (Row wr d 5 ((Z1y n a k).map Za))∧Hid (Only (fun q=>q=d) w4 wr)) (fun i _=>m-(intOf i).toNat)
 ·exact⟨0,Y,rfl,Z (R4.to (by simp[Z1y];exact .inr rfl)),Z (Only.refl _ _)⟩
 ·obtain⟨k,hk,rfl,E,U⟩:=hrel;by_cases G:k<m
  ·have aB:(k:Int)<(m:Int):=Y;obtain⟨b,o,r,al,V⟩:=a4.get G (Xx a k (by rw[l];exact G));have am:b≠d:=by
    rcases a5 with ⟨j,_⟩|⟨q,j,h2,_⟩;·rw[j]at r;cases r
    ·rw[j]at r;injection r with A;injection A with A _ _;omega
   subst r;have an:=ak (a.getD k 0) (by rw[Z6,Z7 (by rw[l];exact G)];exact Zp _);have I:=E.set (a.getD k 0).toNat (Za 1);rw[←XZ,←Z8R (by rw[l];exact G)]at I;obtain⟨z,hz⟩:=Zb ((a.getD k 0).toNat);have a6:a.getD k 0=(z:Int):=Y;rw[hz]at I;rw[a6]at V an;have aC:wr.cell? (b,o+k)=some (.int .i64 (z:Int)):=(by rw[←V];have h2:=U.block b al am;simp only[World.cell?,h2]);have f1:=E.frozen z;obtain⟨u0,P⟩:∃u,wr.cell? ⟨d,z,none⟩=some u:=by rw[E.cell z];exact⟨_,Z7 (by rw[Zz,Z6M n a k (by rw[l];omega)];omega)⟩
   have ao:=Z I;have ap:=Z (Only.set (F:=fun q=>q=d) U rfl z (Za 1));clear I V hz a6;go_wp2;go_roundw;·exact⟨k+1,Y,Zg,ao,ap⟩
   ·exact Zh
  ·have aq:k=m:=Y;subst aq;have W:=E.out;have he:Z1y n a k=VE n a:=(by rw[←l];exact Z9Q n a);rw[he]at W;have ar:=Z W;have av:=Z (aj.trans (U.below (B:=N) (fun q e=>by subst e;omega) Y));clear W he;go_wp2;go_ret;exact⟨d,rfl,Y,by rw[ai];exact ar,av⟩
structure RIs (w:World) (B:Nat) (A:Option Addr) (n:Nat) (vs:List Value) (ls:List (List Int)):Prop where
 sl:Sl w B 1 A n vs
 len:ls.length=n
 at_:∀i,i<n→∃A1 c1,vs.getD i undef=.slice A1 (ls.getD i []).length c1∧(ls.getD i []).length≤c1∧c1≤9223372036854775807∧Sl w B 1 A1 (ls.getD i []).length ((ls.getD i []).map iv)
theorem RIs.below {w':U1}{B n:Nat}{A:X_}{a:List (W_)}(h:RIs w B A n l a)(b:Below B w w'):RIs w' B A n l a:=
 ⟨h.sl.below b,h.len,fun i c=>by obtain⟨d,f,e,g,j,k⟩:=h.at_ i c;exact⟨d,f,e,g,j,k.below b⟩⟩
theorem RIs.get {a:List (W_)}(h:RIs w n A m l a){k:Nat}(f:k<m):
  ∃b o d c,A=some ⟨b,o,none⟩∧b<n∧w.cell? (b,o+k)=some (.slice d (a.getD k []).length c)∧(a.getD k []).length≤c∧c≤9223372036854775807∧Sl w n 1 d (a.getD k []).length ((a.getD k []).map iv):=by
 have g:k<l.length:=Zc h.sl.len;obtain⟨d,c,e,i,j,p⟩:=h.at_ k f;obtain⟨b,o,q,r,s⟩:=h.sl.get f (Z7 g);refine⟨b,o,d,c,q,r,?_,i,j,p⟩;rw[s,←e,Z6,Z7 g];rfl
def Z2V (N:Nat) (L:List (W_)):Prop:=∀r∈L,(∀c∈r,0≤c∧c<(N:Int))∧r.Pairwise (· < ·)
theorem Z0h {α:Type}{l:List α}{d:α}(h:n<l.length):l.getD n d∈l:=by rw[Z6,Z7 h];exact Zp _
theorem Zbo (h:s.Pairwise (· < ·)){j:Nat}(a:j+1<s.length):s.getD j 0<s.getD (j+1) 0:=by have:=VH.1 h j (j+1) Y a Y;rw[Z6,Z6,Z7 a,Z7 (by omega:j<s.length)];exact this
theorem ZiE (s:ZJ)(r:W_)(k:Nat)(h:k<r.length):s.os (r.take (k+1))=s.os (r.take k)++(if s.isO (r.getD k 0) then [r.getD k 0] else []):=by unfold ZJ.os;rw[ZR h,Vs,Z6,Z7 h];congr 1;simp only[Yz,List.filter_cons,List.filter_nil]
structure PL (w:World) (gp go gu:Nat) (A:Option Addr) (n c N:Nat) (s:ZJ):Prop where
 row:Row w gp 408 [.slice A n c,.slice (some ⟨go,0,none⟩) N N,.slice (some ⟨gu,0,none⟩) n n]
 o:Row w go 4 (s.opn.map Value.bool)
 u:Row w gu 4 (s.used.map Value.bool)
theorem PL.below {w w':U1}{b go d:Nat}{A:X_}{n c N:Nat}{s:ZJ}(h:PL w b go d A n c N s)(a:Below w w w'):PL w' b go d A n c N s:=
 ⟨h.row.below a h.row.lt,h.o.below a h.o.lt,h.u.below a h.u.lt⟩
theorem Z25 (l:List Bool)(k:Nat)(h:k<l.length):(l.map Value.bool)[k]? =some (.bool (l.getD k false)):=by rw[ZO,Z6,Z7 h];rfl
theorem Zde (N B:Nat)(A:X_)(n c:Nat)(R:Z_)(L:List (W_))(w:U1)(h:RIs w B A n R L)(hn:n≤1048576)(hN:N≤64)(x:Z2V N L):
  Calls prog 329 #[(N:Int),(A,n,c)] w fun e S=>e=.returned (.bool true)∧w=S:=by
 have H:=h;have T:=x;have C:=h.len;have U:=Z C;clear h x C;go_enter func329,ntmps329;go_wp2;go_loop [17] (fun i=>∃k:Nat,k≤n∧i=.int .i64 (k:Int)) (fun i=>n-(intOf i).toNat)
 ·exact⟨0,Y,rfl⟩
 ·obtain⟨k,hk,rfl⟩:=hrel;by_cases D:k<n
  ·have a4:(k:Int)<(n:Int):=Y;obtain⟨b,o,A1,c1,V,hb,E,F,a5,f⟩:=H.get D;subst V;have l:=T (L.getD k []) (Z0h (by rw[U];exact D));obtain⟨r,G⟩:=Zb (L.getD k []);rw[G]at E F f l;obtain⟨m,p⟩:=Zb r.length;rw[p]at E F f;have g:=Z p;have I:=Z l;clear G p l;go_wp2;go_loop [23] (fun i=>∃j:Nat,j≤m∧i=.int .i64 (j:Int)) (fun i=>m-(intOf i).toNat)
   ·exact⟨0,Y,rfl⟩
   ·obtain⟨j,hj,rfl⟩:=hrel;by_cases q:j<m
    ·have a6:(j:Int)<(m:Int):=Y;obtain⟨b2,o2,s,a7,t⟩:=f.get q (Xx r j (by rw[g];exact q));have J:=I.1 (r.getD j 0) (Z0h (by rw[g];exact q));by_cases M:j=0
     ·subst M;subst s;rw[XV]at t;obtain⟨z,d⟩:=Zb (r.getD 0 0);rw[d]at t J;have W:¬z<0:=Y;have a0:¬(N:Int)≤z:=Y;clear d;go_wp2;go_round;·exact⟨1,Y,Zg⟩
      ·exact Zh
     ·have a1:(j:Int)-1=((j-1:Nat):Int):=Y;obtain⟨i,O⟩:=Zb (j-1);have P:j=i+1:=Y;rw[O]at a1;obtain⟨b3,o3,a,a8,ci⟩:=f.get (show i<m from Y) (Xx r i (by rw[g];omega));have v:=Zbo I.2 (j:=i) (by rw[g];omega);rw[←P]at v;rw[s]at a;injection a with a;injection a with a e4 _;subst s;subst a e4;obtain⟨z,d⟩:=Zb (r.getD j 0);obtain⟨y,Q⟩:=Zb (r.getD i 0);rw[d]at t J v;rw[Q]at ci v;have W:¬z<0:=Y;have a0:¬(N:Int)≤z:=Y;have a9:¬z≤y:=Y;have aa:0<j:=Y;have ab:(i:Int)<(m:Int):=Y;clear d Q O P M;go_wp2;go_round;·exact⟨j+1,Y,Zg⟩
      ·exact Zh
    ·have a2:j=m:=Y;subst a2;go_wp2;go_round;·exact⟨k+1,Y,Zg⟩
     ·exact Zh
  ·have a3:k=n:=Y;subst a3;go_wp2;go_ret;exact⟨rfl,rfl⟩
theorem ZcH (G go V:Nat)(A:X_)(n c N:Nat)(s:ZJ)(B:Nat)(I:X_)(m W:Nat)(r:W_)(w:U1)(h:PL w G go V A n c N s)(hN:N≤64)(p:Sl w B 1 I m (r.map iv))(hm:m≤1048576)(J:∀c∈r,0≤c∧c<(N:Int))(L:s.opn.length=N):
  Calls prog 356 #[(G,()),(I,m,W)] w fun e w'=>(∃z:Int,e=.returned (.tuple #[z,.bool (decide ((s.os r).length=1))])∧((s.os r).length=1→s.os r=[z]))∧w=w':=by
 have r1:=Z9 h.row 1;have M:r.length=m:=by have:=p.len;simpa using this
 have H:=h;have a0:=p;have HR:=Z J;have a1:=Z L;have f:=Z M;clear h p J L M;go_enter func356,ntmps356;go_wp2;go_loop [6,7,12] (fun q u i=>∃(k:Nat) (z:Int) (t:Nat),k≤m∧i=.int .i64 (k:Int)∧q=.int .i64 z∧u=.int .i64 (t:Int)∧t≤k∧Hid ((s.os (r.take k)).length=t)∧Hid (s.os (r.take k)=[]∨∃l,s.os (r.take k)=l++ [z])) (fun _ _ i=>m-(intOf i).toNat)
 ·exact⟨0,0,0,Y,rfl,rfl,rfl,Y,Z rfl,Z (.inl rfl)⟩
 ·obtain⟨k,z,t,hk,rfl,rfl,rfl,a6,y,O⟩:=hrel;by_cases g:k<m
  ·have a7:(k:Int)<(m:Int):=Y;obtain⟨b,o,ea,d,ck⟩:=a0.get g (Xx r k (by rw[f];exact g));have hc:=HR (r.getD k 0) (Z0h (by rw[f];exact g));have j:=ZiE s r k (by rw[f];exact g);subst ea;obtain⟨x,P⟩:=Zb ((r.getD k 0).toNat);have C:r.getD k 0=(x:Int):=Y;have a2:x<N:=Y;have a8:(x:Int)<(N:Int):=Y;have Q:=H.o.cell x;rw[Z25 _ _ (by rw[a1];exact a2)]at Q;have R:s.isO (r.getD k 0)=s.opn.getD x false:=(by unfold ZJ.isO;rw[P]);rw[R,C]at j;rw[C]at ck;obtain⟨bb,S⟩:=Zb (s.opn.getD x false);rw[S]at Q j;have D:=Z j;clear j R S P C hc;cases bb with
   |true=>
    go_wp2;go_round;·exact⟨k+1,(x:Int),t+1,Y,Zg,rfl,Zg,Y,Z (by rw[D,if_pos rfl,Zw,y];rfl),Z (.inr ⟨_,by rw[D,if_pos rfl]⟩)⟩
    ·exact Zh
   |false=>
    have T:s.os (r.take (k+1))=s.os (r.take k):=(by rw[D];simp);have U:=Z T;clear T;go_wp2;go_round;·exact⟨k+1,z,t,Y,Zg,rfl,rfl,Y,Z (by rw[U];exact y),Z (by rw[U];exact O)⟩
    ·exact Zh
  ·have a3:k=m:=Y;subst a3;have E:=y.out;have F:=O.out;rw[←f,Xm]at E F;have a4:=Z E;have a5:=Z F;clear E F;go_wp2_with fail;refine bodyPost_ret (v:= .tuple #[z,.bool (decide ((s.os r).length=1))]) (by
    simp[results,results356,go_sem,a4.out];by_cases a:t=1;·subst a;rfl
    ·have h8:¬(t:Int)=1:=Y;simp[a,h8]) rfl ⟨⟨z,rfl,fun d=>?_⟩,rfl⟩
   rcases a5.out with a|⟨l,a⟩;·rw[a]at d;cases d
   ·rw[a,Zw]at d;have:l=[]:=V3 (by rw[Z05]at d;omega);rw[a,this];rfl
theorem ZgL (D go W:Nat)(A:X_)(n c N:Nat)(s:ZJ)(B:Nat)(vs:Z_)(L:List (W_))(w:U1)(h:PL w D go W A n c N s)(hN:N≤64)(E:RIs w B A n vs L)(hB:B≤w)(hn:n≤1048576)(hL:Z2V N L)(a0:∀r∈L,r.length≤1048576)(a1:s.opn.length=N)(a2:s.used.length=n):
  Calls prog 331 #[(D,())] w fun e w'=>((∃(i z:Nat),e=.returned (.tuple #[.agg #[(i:Int),(z:Int)],.bool true])∧i<n∧z<N∧s.isU i=false∧s.os (L.getD i [])=[(z:Int)])∨
   (e=.returned (.tuple #[.agg #[Nat,Nat],.bool false])∧∀i,i<n→s.isU i=false→(s.os (L.getD i [])).length≠1))∧Below w w w':=by
 obtain⟨a,l⟩:∃g,w.heap.size=g:=⟨_,rfl⟩;rw[l]at hB ⊢;have q:Below a w (w.alloc (.cells #[Nat,Nat] 354)):=(Z8 _ _).alloc Y _;have d:Row (w.alloc (.cells #[Nat,Nat] 354)) a 354 [Nat,Nat]:=by rw[←l];exact Row.new _ _ _
 have f:=h.below (by rw[l];exact q);have HR:=E.below (q.mono hB);have p0:=f.row.cell 0;simp only[ZE]at p0;have HL:=Z hL;have a7:=Z a0;have a8:=Z a1;have a9:=Z a2;have aa:=Z E.len;have ab:=Z l;have H:=Z f;clear h E hL a0 a1 a2 f l;go_enter func331,ntmps331;go_wp2_with fail;rw[ab];generalize w.alloc (.cells #[Nat,Nat] 354)=w1 at H HR d q p0 ⊢;go_loop [13] (fun i=>∃k:Nat,k≤n∧i=.int .i64 (k:Int)∧Hid (∀i,i<k→s.isU i=false→(s.os (L.getD i [])).length≠1)) (fun i=>n-(intOf i).toNat)
 ·exact⟨0,Y,rfl,Z (fun i F=>absurd F Y)⟩
 ·obtain⟨k,hk,rfl,G⟩:=hrel;have p2:=Z9 H.row 2;by_cases C:k<n
  ·have af:(k:Int)<(n:Int):=Y;obtain⟨b,o,A1,c1,ea,hb,ck,a3,ag,I⟩:=HR.get C;subst ea;have J:L.getD k []∈L:=Z0h (by rw[aa];exact C);have M:=HL _ J;have O:=a7 _ J;have cu:=H.u.cell k;rw[Z25 _ _ (by rw[a9];exact C)]at cu;obtain⟨bu,P⟩:=Zb (s.used.getD k false);rw[P]at cu;have a4:=Z (show s.isU k=bu from P);obtain⟨r,Q⟩:=Zb (L.getD k []);rw[Q]at ck a3 I M O;obtain⟨m,hm⟩:=Zb r.length;rw[hm]at ck a3 I O;have a5:=Z Q;have a6:=Z M;clear Q hm M P J;cases bu with
   |true=>
    go_wp2;go_round
    ·exact⟨k+1,Y,Zg,Z (fun i F x=>by
     rcases Yf i k with f|f;·exact G i f x
     ·have:i=k:=Y;subst this;rw[a4]at x;cases x)⟩
    ·exact Zh
   |false=>
    go_wp2_with fail;refine(ZcH D go W (some ⟨b,o,none⟩) n c N s B A1 m c1 r _ H hN I O a6.1 a8).mono ?_;rintro e w2 ⟨⟨z,rfl,R⟩,rfl⟩;obtain⟨t,S⟩:=Zb ((s.os r).length);rw[S]at R ⊢;have HT:=Z S;have HZ:=Z R;clear S R;by_cases f:t=1;·subst f;have T:=HZ rfl;have ah:=a6.1 z (by have:z∈s.os r:=(by rw[T];exact Yn.2 rfl);exact(YW.1 this).1);obtain⟨j,ac⟩:∃j:Nat,z=(j:Int):=⟨z.toNat,Y⟩;subst ac;have ad:=Z T;have q0:=Z9 d 0;have q1:=Z9 d 1;have f0:=d.frozen 0;have f1:=d.frozen 1;clear T;go_wp2_with fail;have y:Row ((w1.setCell a (k:Int)).setCell (a,1) (j:Int)) a 354 [(k:Int),(j:Int)]:=(d.set 0 _).set 1 _;have U:=Z9 y 0;have V:=Z9 y 1;refine bodyPost_ret (v:= .tuple #[.agg #[(k:Int),(j:Int)],.bool true]) ?_ rfl ⟨.inl ⟨k,j,rfl,C,Y,a4,by rw[a5];exact ad⟩,(q.setCell (p:=(⟨a,0,none⟩:U3)) (Z4 a) _).setCell (p:=(⟨a,1,none⟩:U3)) (Z4 a) _⟩;simp[results,results331,go_sem,U,V]
    ·go_wp2;go_round
     ·exact⟨k+1,Y,Zg,Z (fun i F x=>by
      rcases Yf i k with h2|h2;·exact G i h2 x
      ·have:i=k:=Y;subst this;rw[a5,HT];exact f)⟩
     ·exact Zh
  ·have ae:k=n:=Y;subst ae;have q0:=Z9 d 0;have q1:=Z9 d 1;have f0:=d.frozen 0;have f1:=d.frozen 1;go_wp2_with fail;have y:Row ((w1.setCell a Nat).setCell (a,1) Nat) a 354 [Nat,Nat]:=(d.set 0 _).set 1 _;have U:=Z9 y 0;have V:=Z9 y 1;refine bodyPost_ret (v:= .tuple #[.agg #[Nat,Nat],.bool false]) ?_ rfl ⟨.inr ⟨rfl,G⟩,(q.setCell (p:=(⟨a,0,none⟩:U3)) (Z4 a) _).setCell (p:=(⟨a,1,none⟩:U3)) (Z4 a) _⟩;simp[results,results331,go_sem,U,V]
theorem Zg5 (E go P:Nat)(A:X_)(n c N:Nat)(s:ZJ)(B:Nat)(vs:Z_)(L:List (W_))(w:U1)(h:PL w E go P A n c N s)(hN:N≤64)(hr:RIs w B A n vs L)(Q:B≤w)(hn:n≤1048576)(hL:Z2V N L)(al:∀r∈L,r.length≤1048576)(am:s.opn.length=N)(an:s.used.length=n)(ao:∃k,k<N∧s.opn.getD k false=true):
  Calls prog 332 #[(E,())] w fun e w'=>(∃z:Nat,e=.returned (z:Int)∧z<N∧s.opn.getD z false=true)∧Below w w w':=by
 obtain⟨i0,ap,aq,ar,av⟩:=info_parts VC;obtain⟨a,I⟩:∃g,w.heap.size=g:=⟨_,rfl⟩;rw[I]at Q ⊢;have a1:=Z I;have H:=h;have HR:=hr;have HL:=hL;have aw:=Z al;have ax:=Z am;have ay:=Z an;have az:=Z hr.len;have aB:=Z ao;have p1:=Z9 h.row 1;have a2:E<a:=by rw[←I];exact h.row.lt
 have aC:go<a:=by rw[←I];exact h.o.lt
 have ab:P<a:=by rw[←I];exact h.u.lt
 go_enter func332,ntmps332;go_wp2_with ((at_make;go_must (refine Z0E _ rfl (.tmp 15) (.tmp 15) 22 rfl 3 i0 Nat 8 underlying22 ap aq ar av rfl .i64 .i64 _ _ N N rfl rfl rfl rfl Y Y Y ?_);intro R R1 S s1;go_must (rw[a1]at R1 S s1 ⊢;have J:=Z (H.below (a1 ▸ S));have p0:=J.row.cell 0;simp only[ZE]at p0;have aD:=Z (HR.below (S.mono Q));have aV:a<R:=R1.lt)))
 have aE:Hid (Row R a 3 ((List.replicate N (0:Int)).map iv)):=Z (R1.to (by rw[List.map_replicate];rfl));go_loopw [22] (fun i wr=>∃(k:Nat) (f:W_),k≤n∧i=.int .i64 (k:Int)∧f.length=N∧Hid (Row wr a 3 (f.map iv))∧Hid (Only (fun q=>q=a) R wr)) (fun i _=>n-(intOf i).toNat)
 ·exact⟨0,_,Y,rfl,Z0w,aE,Z (Only.refl _ _)⟩
 ·obtain⟨k,f,hk,rfl,a3,HC,HO⟩:=hrel;obtain⟨wx,aF⟩:=WI wr;subst aF;have v:Below a R wx:=HO.below (fun q e=>by subst e;exact Z4 _) Y;have aG:=v;by_cases a4:k<n
  ·have aW:(k:Int)<(n:Int):=Y;obtain⟨b,o,A1,c1,ea,hb,ck,ac,b0,a5⟩:=(aD.below (v.mono Q)).get a4;have ad:L.getD k []∈L:=Z0h (az ▸ a4);have ae:=HL _ ad;have af:=aw _ ad;obtain⟨r,aH⟩:=Zb (L.getD k []);rw[aH]at ck ac a5 ae af;obtain⟨m,hm⟩:=Zb r.length;rw[hm]at ck ac a5 af;have HM:=Z hm;have aI:=Z ae;have p2:=(v.cell (p:=⟨E,2,none⟩) a2).trans (J.row.cell 2);simp only[Xd,ZE]at p2;have T:=(v.cell (p:=(P,k)) ab).trans (J.u.cell k);rw[Z25 _ _ (ay ▸ a4)]at T;obtain⟨bu,aJ⟩:=Zb (s.used.getD k false);rw[aJ]at T;have b1:b<a:=Y;subst ea;go_wp2;go_loopw [29] (fun i wr=>∃(j:Nat) (f:W_),j≤m∧i=.int .i64 (j:Int)∧f.length=N∧Hid (Row wr a 3 (f.map iv))∧Hid (Only (fun q=>q=a) wx wr)) (fun i _=>m-(intOf i).toNat)
   ·exact⟨0,f,Y,rfl,a3,HC,Z (Only.refl _ _)⟩
   ·obtain⟨j,G,hj,rfl,U,M,V⟩:=hrel;by_cases l:j<m
    ·have aK:(j:Int)<(m:Int):=Y;have a6:Below a wx wr:=V.below (fun q e=>by subst e;exact Z4 _) (Zc aG.size);obtain⟨b2,o2,e2,b3,W⟩:=(a5.below (a6.mono Q)).get l (Xx r j (HM ▸ l));have hz:=aI.1 (r.getD j 0) (Z0h (HM ▸ l));obtain⟨z,aL⟩:∃z:Nat,r.getD j 0=(z:Int):=⟨(r.getD j 0).toNat,Y⟩;rw[aL]at W hz;have C:z<N:=Y;have aM:(z:Int)<(N:Int):=Y;replace p2:=(a6.cell (p:=⟨E,2,none⟩) a2).trans p2;replace T:=(a6.cell (p:=(P,k)) ab).trans T;have cc:=M.cell z;rw[Xx G z (U ▸ C)]at cc;have fc:=M.frozen z;obtain⟨x,hx⟩:=Zb (G.getD z 0);rw[hx]at cc;have ag:=M.set z (.int .i64 (wrap64 (x+1)));have aO:(G.map iv).set z (.int .i64 (wrap64 (x+1)))=(G.set z (wrap64 (x+1))).map iv:=(by rw[XZ];rfl);rw[aO]at ag;have aP:=Only.set (F:=fun q=>q=a) V rfl z (.int .i64 (wrap64 (x+1)));subst e2;cases bu with
     |true=>
      go_wp2;go_roundw;·exact⟨j+1,G,Y,Zg,U,M,V⟩
      ·exact Zh
     |false=>
      go_wp2;go_roundw;·exact⟨j+1,_,Y,Zg,by rw[Ya];exact U,ag,aP⟩
      ·exact Zh
    ·have a7:j=m:=Y;subst a7;go_wp2;go_roundw;·exact⟨k+1,G,Y,Zg,U,M,Z (HO.trans V (fun _ _ h=>h))⟩
     ·exact Zh
  ·have aQ:k=n:=Y;subst aQ;have p9:=(v.cell (p:=⟨E,1,none⟩) a2).trans (J.row.cell 1);simp only[Xd,ZE]at p9;have ah:=Row.below J.o v aC;have ai:=S.trans v;go_wp2;go_loopw [8,54] (fun q i wr=>∃(j:Nat),j≤N∧i=.int .i64 (j:Int)∧Hid ((q=.int .i64 (-1)∧∀t,t<j→s.opn.getD t false=false)∨∃z:Nat,q=.int .i64 (z:Int)∧z<N∧s.opn.getD z false=true)∧Hid (Below wx wx wr)) (fun _ i _=>N-(intOf i).toNat)
   ·exact⟨0,Y,rfl,Z (.inl ⟨rfl,fun t ht=>absurd ht Y⟩),Z (Z8 _ _)⟩
   ·obtain⟨j,hj,rfl,HQ,D⟩:=hrel;by_cases l:j<N
    ·have aK:(j:Int)<(N:Int):=Y;have co:=(ah.below D ah.lt).cell j;rw[Z25 _ _ (ax ▸ l)]at co;obtain⟨bb,aj⟩:=Zb (s.opn.getD j false);rw[aj]at co;have a8:=Z aj;have ak:=HC.below D HC.lt;have W:=ak.cell j;rw[Xx f j (a3 ▸ l)]at W;obtain⟨x,hx⟩:=Zb (f.getD j 0);rw[hx]at W;rcases HQ.out with ⟨rfl,a9⟩|⟨z,rfl,C,aa⟩
     ·have aR:=Z a9;cases bb with
      |false=>
       go_wp2_with fail;go_quiet (fail)
       have d:=bq_ D nq;generalize wr.drewN nq=w4 at d ⊢;go_wp2;go_roundw
       ·exact⟨j+1,Y,Zg,Z (.inl ⟨rfl,fun t ht=>by
        rcases Yf t j with O|O;·exact aR t O
        ·have:t=j:=Y;rw[this];exact a8⟩),d⟩
       ·exact Zh
      |true=>
       go_wp2_with fail;go_quiet (fail)
       have d:=bq_ D nq;generalize wr.drewN nq=w4 at d ⊢;go_wp2;go_roundw;·exact⟨j+1,Y,Zg,Z (.inr ⟨j,rfl,l,a8⟩),d⟩
       ·exact Zh
     ·have a0:=Z aa;have cz:=ak.cell z;rw[Xx f z (a3 ▸ C)]at cz;obtain⟨y,hy⟩:=Zb (f.getD z 0);rw[hy]at cz;have aT:¬(z:Int)<0:=Y;have aM:(z:Int)<(N:Int):=Y;cases bb with
      |false=>
       go_wp2_with fail;go_quiet (fail)
       have d:=bq_ D nq;generalize wr.drewN nq=w4 at d ⊢;go_wp2;go_roundw;·exact⟨j+1,Y,Zg,Z (.inr ⟨z,rfl,C,a0⟩),d⟩
       ·exact Zh
      |true=>
       have b4:decide ((z:Int)<0)=false:=decide_eq_false aT;go_wp2_with fail;go_quiet (fail)
       have d:=bq_ D nq;generalize wr.drewN nq=w4 at d ⊢;by_cases b5:y<x
       ·go_wp2;go_roundw;·exact⟨j+1,Y,Zg,Z (.inr ⟨j,rfl,l,a8⟩),d⟩
        ·exact Zh
       ·go_wp2;go_roundw;·exact⟨j+1,Y,Zg,Z (.inr ⟨z,rfl,C,a0⟩),d⟩
        ·exact Zh
    ·have a7:j=N:=Y;subst a7;rcases HQ.out with ⟨rfl,a9⟩|⟨z,rfl,C,aa⟩;·exfalso;obtain⟨t,ht,O⟩:=aB;rw[a9 t ht]at O;cases O
     ·have a0:=Z aa;have aU:=ai.trans (D.mono (by have:=ai.size;rw[a1]at this;exact this));go_wp2;go_ret;exact⟨⟨z,rfl,C,a0⟩,aU⟩
theorem Zhm (B:Nat)(A:X_)(n c:Nat)(l:List Bool)(w:U1)(h:Sl w B 1 A n (l.map Value.bool))(D:n≤1048576):
  Calls prog 355 #[(A,n,c),.bool true] w fun e s=>(∃z:Int,e=.returned z∧decide (0≤z)=l.any id)∧w=s:=by
 have H:=h;have t:l.length=n:=by have:=h.len;simpa using this
 have f:=Z t;go_enter func355,ntmps355;go_wp2;go_loop [8] (fun i=>∃k:Nat,k≤n∧i=.int .i64 (k:Int)∧Hid (∀j,j<k→l.getD j false=false)) (fun i=>n-(intOf i).toNat)
 ·exact⟨0,ZY _,rfl,Z (fun j m=>absurd m Y)⟩
 ·obtain⟨k,E,rfl,p⟩:=hrel;by_cases g:k<n
  ·have F:(k:Int)<(n:Int):=Y;obtain⟨b,o,v,_,y⟩:=H.get g (Z25 l k (f ▸ g));subst v;obtain⟨x,d⟩:=Zb (l.getD k false);rw[d]at y;have q:=Z d;cases x with
   |true=>go_wp2;go_ret;refine⟨⟨(k:Int),rfl,?_⟩,rfl⟩;have a:l.any id=true:=Z1u.2 ⟨l.getD k false,Z0h (f ▸ g),q⟩;rw[a];exact decide_eq_true Y
   |false=>
    go_wp2;go_round
    ·exact⟨k+1,Y,Zg,Z (fun j m=>by
     rcases Yf j k with a|a;·exact p j a
     ·have:j=k:=Y;rw[this];exact q)⟩
    ·exact Zh
  ·have C:k=n:=Y;subst C;go_wp2;go_ret;refine⟨⟨-1,rfl,?_⟩,rfl⟩;have a:l.any id=false:=List.any_eq_false.2 (fun x d=>by obtain⟨i,r,e⟩:=ZZ d;have:=p i (f ▸ r);rw[Z6,Z7 r,e]at this;simpa using this);rw[a];rfl
theorem ZgV (B:Nat)(A:X_)(n c:Nat)(l:List Bool)(b:Bool)(w:U1)(h:Sl w B 1 A n (l.map Value.bool))(f:n≤1048576)(g:l.any id=b):
  Calls prog 330 #[(A,n,c),.bool true] w fun e d=>e=.returned (.bool b)∧w=d:=by
 go_enter func330,ntmps330;go_wp2_with fail;refine(Zhm B A n c l _ h f).mono ?_;rintro e d ⟨⟨z,rfl,a⟩,rfl⟩;rw[g]at a;have i:=Z a;clear a;go_wp2;go_ret;exact⟨Xu i,rfl⟩
