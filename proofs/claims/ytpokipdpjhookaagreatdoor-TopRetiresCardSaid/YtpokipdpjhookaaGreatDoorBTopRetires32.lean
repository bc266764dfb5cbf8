/- StoA RoomS ScanKeep ScanWhole StoMath May64 IdxI -/
import Derived.Test.YtpokipdpjhookaaGreatDoorBTopRetires25
import Derived.Test.YtpokipdpjhookaaGreatDoorBTopRetires26
import Derived.Test.YtpokipdpjhookaaGreatDoorBTopRetires29
set_option maxHeartbeats 8000000
set_option maxRecDepth 20000
set_option linter.all false
namespace Go.Proofs
open Go Go.RowKit Tryz
variable {n:Nat}
section
theorem ZbW (m:Zd)(a b:U2)(pg:Nat)(c:Int)(gd:Nat→Nat)(fl:Nat→Option Dr){s:Nat}(d:s<64):(Z0I m a b pg c gd fl)[10+s]? =some (X3 gd fl s):=by unfold Z0I Z3K;rw[Y7 Ze,ZO];simp[d]
section
variable {w:U1} {gs pg:Nat} {gd:Nat→Nat} {F:Nat→U0} {p:Pw} {fl:Nat→Option Dr} {m:Zd} {Ad Ao:X_} {nd cd no co:Nat} {ts:Z_}
theorem SM.cells (h:SM w gs pg gd F p fl m Ad nd cd Ao no co ts):Z01 w gs m (Ad,nd,cd) (Ao,no,co)∧w.cell? (gs,8)=some (.pointer (some ⟨pg,0,none⟩))∧w.cell? (gs,9)=some (.int .i64 p.offs)∧∀s,s<64→w.cell? (gs,10+s)=some (X3 gd fl s):=
 ⟨⟨h.row.cell 0,h.row.cell 1,h.row.cell 2,h.row.cell 3,h.row.cell 4,h.row.cell 5,h.row.cell 6,h.row.cell 7⟩,h.row.cell 8,h.row.cell 9,fun s a=>(h.row.cell (10+s)).trans (ZbW m _ _ pg _ gd fl a)⟩
end
theorem Z22 (gs pg:Nat)(gd:Nat→Nat)(F:Nat→U0)(p:Pw)(fl:Nat→Option Dr)(m:Zd)(Ad Ao:X_)(nd cd no co:Nat)(ts:Z_)(s:Nat)(w:U1)(h:SM w gs pg gd F p fl m Ad nd cd Ao no co ts)(a:s<64)(v:U2)(b:X3 gd fl s=v):
  Calls prog 30 #[(gs,()),(s:Int)] w fun e d=>e=.returned v∧w=d:=by
 have c:=h.cells.2.2.2 s a;rw[b]at c;have f:(s:Int)<64:=Y;have g:(0:Int)≤(s:Int):=Y;go_enter func30,ntmps30;go_wp2;go_ret;exact⟨rfl,rfl⟩
theorem Z6u (gs pg:Nat)(gd:Nat→Nat)(F:Nat→U0)(p:Pw)(fl:Nat→Option Dr)(m:Zd)(Ad Ao:X_)(nd cd no co:Nat)(ts:Z_)(w:U1)(h:SM w gs pg gd F p fl m Ad nd cd Ao no co ts)(b:p.off=false):
  Calls prog 41 #[(gs,())] w fun e a=>e=.returned (.bool false)∧Below w w a:=by
 have f:=h.cells.2.1;have g:=h.cells.2.2.1;have c:=h.pow;have i:=Z (show ∀w,Row w pg 123 (pw p)→Calls prog 68 #[(pg,())] w fun e a=>e=.returned (.bool true)∧w=a from fun w j=>by have d:=Z3A pg p w j;rw[b]at d;exact d);clear h b;go_enter func41,ntmps41;go_upto_region 1 with fail;refine oS [] (fun wx=>wx.cell? ⟨gs,8,none⟩=some (.pointer (some ⟨pg,0,none⟩))∧wx.cell? ⟨gs,9,none⟩=some (.int .i64 p.offs)∧Row wx pg 123 (pw p)) [0,1,2,3,4,5,6,7,8,9,10,11,12,13,14,15,16,17,18,19,20,21,22] (⟨f,g,c.below (bq_ (Z8 _ _) 1) c.lt⟩) fun hS=>?_;iterate 7 refine oV ?_
 refine oC (v:= ?_) (y:=fun w hSw=>by refine Pure.call 68 #[(pg,())] (by go_simp;first|done|rfl) ?_;refine(i w hSw.2.2).mono ?_;rintro e a ⟨rfl,rfl⟩;refine⟨?_,rfl⟩;with_reducible rfl) (h:= ?_);iterate 6 refine oV ?_
 refine oC (v:= ?_) (y:=fun w hSw=>by refine Pure.call 79 #[(pg,())] (by go_simp;first|done|rfl) ?_;refine(Z8K pg p w hSw.2.2).mono ?_;rintro e a ⟨rfl,rfl⟩;refine⟨?_,rfl⟩;with_reducible rfl) (h:= ?_);iterate 8 refine oV ?_
 refine oD ?_;go_wp2;go_ret;exact⟨rfl,bq_ (Z8 _ _) 1⟩
theorem Z53 (gs pg:Nat)(gd:Nat→Nat)(F:Nat→U0)(p:Pw)(fl:Nat→Option Dr)(m:Zd)(Ad Ao:X_)(nd cd no co:Nat)(ts:Z_)(w:U1)(h:SM w gs pg gd F p fl m Ad nd cd Ao no co ts)(b:p.off=false):
  Calls prog 89 #[(gs,())] w fun e a=>e=.returned (.bool false)∧Below w w a:=by
 have H:=h;go_enter func89,ntmps89;go_wp2_with fail;refine(Z6u gs pg gd F p fl m Ad Ao nd cd no co ts w H b).mono ?_;rintro e a ⟨rfl,c⟩;go_wp2;go_ret;exact⟨rfl,c⟩
def Z1Q (fl:Nat→Option Dr) (l:W_):Prop:=∀x∈l,∃s d,x=((s:Nat):Int)∧s<64∧fl s=some d∧d.lost=false
theorem Z88 (gs pg:Nat)(gd:Nat→Nat)(F:Nat→U0)(p:Pw)(fl:Nat→Option Dr)(m:Zd)(Ad Ao:X_)(nd cd no co:Nat)(ts:Z_)(B n c:Nat)(A:X_)(l:W_)(w:U1)(h:SM w gs pg gd F p fl m Ad nd cd Ao no co ts)
  (q:Sl w B 1 A n (l.map iv)) (hB:B≤w) (G:Z1Q fl l) (hn:n≤100000):
  Calls prog 29 #[.func (.func 30) #[(gs,())] #[],(A,n,c)] w fun e o=>∃H I,e=.returned (.slice H n I)∧o.ownsRow w 3 1 (H,n,I) n (l.map iv)∧Below w w o:=by
 obtain⟨J,L,M,N,a4⟩:=info_parts VC;have O:l.length=n:=by have:=q.len;simpa using this
 have eg:∀P w,(callFunc 30 P).run prog w=.ok (.enter 30 P) w:=fun _ _=>rfl;have a5:=h;have a6:=q;have a7:=G;have Q:=Z O;clear h q G O;go_enter func29,ntmps29;go_wp2;go_loopw [5,11] (fun s5 i wr=>∃(k a:Nat) (b:X_),s5=.slice b k a∧k≤n∧i=.int .i64 (k:Int)∧Hid (wr.ownsRow w 3 1 (b,k,a) k ((l.take k).map iv))∧Hid (Below w w wr)) (fun _ i _=>n-(intOf i).toNat)
 ·exact⟨0,0,none,rfl,Y,rfl,Z (Yi _ _ _ _),Z (Z8 _ _)⟩
 ·obtain⟨k,a,b,rfl,hk,rfl,r,f⟩:=hrel;have a8:=f.size;by_cases R:k<n
  ·have ah:(k:Int)<(n:Int):=Y;have j:k<l.length:=(by rw[Q];exact R);obtain⟨be,oe,rfl,ai,ck⟩:=(a6.below (f.mono hB)).get R (Xx l k j);obtain⟨s,d,t,a9,v,S⟩:=a7 (l.getD k 0) (by rw[Z6,Z7 j];exact Zp _);have x:=ZR j;have T:l[k]=l.getD k 0:=(by rw[Z6,Z7 j];rfl);rw[T,t]at x;have HQ:=Z (show(l.take (k+1)).map iv=(l.take k).map iv++ [iv (s:Int)] by rw[x];simp);rw[t]at ck;have U:=a5.new_ f;have V:=(U.dr s d v).1;have y:X3 gd fl s=.pointer (some ⟨gd s,0,none⟩):=(by unfold X3;rw[v]);obtain⟨g,W⟩:=Zb (gd s);rw[W]at y V;have aa:=Z y;have ab:=Z S;clear x T t v y S W j;go_wp2_with (first
    | (go_at_fn 30;go_must (refine(Z22 gs pg gd F p fl m Ad Ao nd cd no co ts s wr U a9 _ aa).mono ?_);rintro e o ⟨rfl,rfl⟩)
    | (go_at_call 74;go_must (refine(Z4P _ g pg d _ V).mono ?_);rintro e o ⟨rfl,rfl⟩;rw[ab])
    | ((with_reducible show wpList _ _ _ (⟨some 27,_,_,_,_,_⟩::_) _ _);refine wpList_plain rfl (fun K hK=>?_);refine WJ 22 3 (.tmp 26) rfl (s:Int) rfl rfl J _ underlying22 L M N rfl ?_;rintro z g7 C a0 D ac;refine hK _ _ ?_;clear hK K;go_must (skip);go_must (have ad:=a0.lt);go_must (have a1:=r.kept (ZB (show Below wr wr z by rw[C];exact D) none) (by cases (Value.slice b k a).ownBlock <;> simp));go_must (have E:=f.trans ((show Below wr wr z by rw[C];exact D).mono a8));clear D C ac)
    | ((with_reducible show wpList _ _ _ (⟨some 28,_,_,_,_,_⟩::_) _ _);go_must (refine Y5 rfl (.tmp 25) (.tmp 27) 22 rfl w 3 J _ 1 8 underlying22 L M N a4 rfl Y (b,k,a) k _ rfl a1 z (some ⟨g7,0,none⟩) 1 1 [iv (s:Int)] rfl (a0.sl ad (Z4 _)) (by simp[Value.oneCell',iv]) (k+1) rfl _ rfl Y Y E.size ?_);intro A8 c8 w8 a2 a3 ae;go_must (have af:=Y9 E a1 a3 (Z4 _) E.size);rw[←HQ]at a2;clear a3 ae))
   go_roundw;·exact⟨k+1,_,_,rfl,Y,Zg,a2,af⟩
   ·exact Zh
  ·obtain rfl:k=n:=Y;have ag:l.take k=l:=(by rw[←Q];exact Xm);rw[ag]at r;go_wp2;go_ret;exact⟨_,_,rfl,r,f⟩
theorem Z1C (gs pg:Nat)(gd:Nat→Nat)(F:Nat→U0)(p:Pw)(fl:Nat→Option Dr)(m:Zd)(Ad Ao:X_)(nd cd no co:Nat)(ts:Z_)(w:U1)(h:SM w gs pg gd F p fl m Ad nd cd Ao no co ts)(f:Z1Q fl m.drives)(g:nd≤100000):
  Calls prog 9 #[(gs,())] w fun e a=>∃b c,e=.returned (.slice b nd c)∧a.ownsRow w 3 1 (b,nd,c) nd (m.drives.map iv)∧Below w w a:=by
 have l:=h.cells.1.2.2.2.2.2.2.1;have i:=h.mani.now;have H:=h;clear h;go_enter func9,ntmps9;go_wp2_with fail;refine(Z88 gs pg gd F p fl m Ad Ao nd cd no co ts w nd cd Ad m.drives w H i.d (Z4 _) f g).mono ?_;rintro e a ⟨b,c,rfl,j,k⟩;go_wp2;go_ret;exact⟨_,_,rfl,j,k⟩
theorem ZcR (gs pg:Nat)(gd:Nat→Nat)(F:Nat→U0)(p:Pw)(fl:Nat→Option Dr)(m:Zd)(Ad Ao:X_)(nd cd no co:Nat)(ts:Z_)(w:U1)(h:SM w gs pg gd F p fl m Ad nd cd Ao no co ts):
  Calls prog 49 #[(gs,())] w fun e a=>e=.returned (pg,())∧w=a:=by
 have b:=h.cells.2.1;go_enter func49,ntmps49;go_wp2;go_ret;exact⟨rfl,rfl⟩
end
theorem Z9R (F:U0)(g b:Nat)(d:Dr)(n:Nat)(w:U1)(h:Yj F w g b d)(j:d.room≤512)(c:n+d.L.length≤d.room):
  Calls prog 115 #[(g,()),(d.L.length:Int),(n:Int)] w fun e f=>e=.returned (.bool true)∧w=f:=by
 have k:=h;have p:max (n:Int) 0=(n:Int):=Y;have l:decide ((n:Int)≤d.room-(d.L.length:Int))=true:=decide_eq_true Y;have a:=Z l;obtain⟨q,m⟩:∃r,d.room=r:=⟨_,rfl⟩;obtain⟨s,o⟩:∃r,d.L.length=r:=⟨_,rfl⟩;have i:=Zej F g b d w k;rw[m]at i a j c;rw[o]at a c ⊢;go_enter func115,ntmps115;go_wp2_with fail;refine i.mono ?_;rintro e f ⟨rfl,rfl⟩;go_wp2;go_ret;exact⟨Xu a,rfl⟩
theorem Z6e (F:U0)(g a:Nat)(d:Dr)(p:U2)(m:Zd)(f i:U2)(n:Nat)(w:U1)(t:p=m.val f i)(h:Yj F w g a d)(q:d.lost=false)(v:d.room≤512)(x:n+d.L.length≤d.room):
  Calls prog 114 #[(g,()),p,(n:Int)] w fun e b=>e=.returned (.bool true)∧Below w w b:=by
 subst t;have j:Below w w (w.alloc (.cells #[m.seq,m.next,m.P.K,m.P.H,m.P.S,m.extra,f,i] 75)):=(Z8 _ _).alloc (Z4 _) _;have c:=h.new_ j;have y:=Z q;have k:=Z9R F g a d n _ c v x;obtain⟨z,s⟩:∃r,d.L.length=r:=⟨_,rfl⟩;rw[s]at k;have l:=Z9w F g a d _ c;rw[s]at l;have o:=Z4P F g a d _ c;rw[q]at o;unfold Zd.val;go_enter func114,ntmps114;go_upto_region 1 with fail;generalize (w.alloc (.cells #[m.seq,m.next,m.P.K,m.P.H,m.P.S,m.extra,f,i] 75))=w1 at j c k l o ⊢;go_wp2_with (first
  | (go_at_call 74;go_must (refine o.mono ?_);rintro e b ⟨rfl,rfl⟩)
  | (go_at_call 116;go_must (refine l.mono ?_);rintro e b ⟨rfl,rfl⟩)
  | (go_at_call 115;go_must (refine k.mono ?_);rintro e b ⟨rfl,rfl⟩))
 go_ret;exact⟨rfl,j⟩
theorem Z9i (F:U0)(g f:Nat)(d:Dr)(v:U2)(m:Zd)(b c:U2)(n:Nat)(w:U1)(Q:v=m.val b c)(h:Yj F w g f d)(k:d.lost=false)(x:d.room≤512)(l:n+d.L.length≤d.room):
  Calls prog 58 #[(g,()),v,(n:Int)] w fun e a=>e=.returned Nat∧Below w w a:=by
 subst Q;have j:Below w w (w.alloc (.cells #[m.seq,m.next,m.P.K,m.P.H,m.P.S,m.extra,b,c] 75)):=(Z8 _ _).alloc (Z4 _) _;have y:=Row.new w 75 #[m.seq,m.next,m.P.K,m.P.H,m.P.S,m.extra,b,c];have i:=h.new_ j;have o:=Z4P F g f d _ i;rw[k]at o;have p:=Z (show ∀a,Below (w.alloc (.cells #[m.seq,m.next,m.P.K,m.P.H,m.P.S,m.extra,b,c] 75)).heap.size (w.alloc (.cells #[m.seq,m.next,m.P.K,m.P.H,m.P.S,m.extra,b,c] 75)) a→Calls prog 116 #[(g,())] a (fun e q=>e=.returned (d.L.length:Int)∧a=q)∧
  Calls prog 115 #[(g,()),(d.L.length:Int),(n:Int)] a (fun e q=>e=.returned (.bool true)∧a=q) from fun a z=>⟨Z9w F g f d _ (i.new_ z),Z9R F g f d n _ (i.new_ z) x l⟩)
 have s:=Z6e F g f d _ m b c n _ rfl i k x l;obtain⟨U,A⟩:∃r,d.L.length=r:=⟨_,rfl⟩;rw[A]at p;obtain⟨V,t⟩:∃g,w.heap.size=g:=⟨_,rfl⟩;obtain⟨B,C,D,E,G,I,J,M⟩:=Row.c8 y;rw[t]at B C D E G I J M;have R:=Z t;unfold Zd.val at s;clear h k y A l t;unfold Zd.val;go_enter func58,ntmps58;go_upto_region 1 with fail;rw[R];generalize (w.alloc (.cells #[m.seq,m.next,m.P.K,m.P.H,m.P.S,m.extra,b,c] 75))=w1 at j i s p o B C D E G I J M ⊢;go_wp2_with (first
  | (go_at_call 74;go_must (refine o.mono ?_);rintro e a ⟨rfl,rfl⟩)
  | (go_at_call 114;go_must (refine s.mono ?_);rintro e T ⟨rfl,N⟩;have O:=Z (p T N))
  | (go_at_call 116;go_must (refine O.1.mono ?_);rintro e a ⟨rfl,rfl⟩)
  | (go_at_call 115;go_must (refine O.2.mono ?_);rintro e a ⟨rfl,rfl⟩))
 go_ret;exact⟨rfl,j.trans (N.mono j.size)⟩
theorem Zir {es:List Zr}(h:∀e∈es,(Vg e).length≤26):(es.flatMap Vg).length≤26*es.length:=by
 induction es with
 |nil=>exact Z4 _
 |cons e es ih=>have b:=h e Ze;have c:=ih (fun x a=>h x (XB _ a));rw[Vb,Zw,XQ];omega
theorem ZfC (m:Zd):(pack m).length≤400:=by
 unfold pack;split;·rename_i c;have a:=Yo c;have f:=Zir (es:=m.objs) (fun e d=>by obtain⟨i,b,rfl⟩:=ZZ d;have:=Z7p a b;rw[Z6,Z7 b]at this;exact Zeo this);have g:=a.olen;have h:=Z6N a.drives;unfold Z4q Z1W;simp only[Zw,Zz,Z2v,Z05,XQ,List.length_nil];omega
 ·exact ZY _
theorem Z1D (m:Zd):(ZI m.seq (pack m)).length≤9:=by have:=ZfC m;rw[Z3P];unfold Z0J;omega
def inL (l:Z0) (p:Y_):Bool:=l.any fun c=>decide (c=p)
def Z1p (m:Zd) (l:Z0):Bool:=m.may && (ZI m.seq (pack m)).all (inL l)
theorem ZdM (c p:Y_)(A a:X_)(n f d g h B:Nat)(b:Bool)(w:U1)(j:Row w h 32 [(a,d,g)])(k:Sl w B 1 A n (c.map Za))(l:Sl w B 1 a d (p.map Za))(m:decide (c=p)=b):
  Calls prog 214 #[(A,n,f),(h,())] w fun e i=>e=.returned (.bool b)∧w=i:=by
 have o:=j.cell 0;simp only[ZE]at o;have q:=k;have r:=l;have s:=Z m;go_enter func214,ntmps214;go_wp2_with fail;refine(Z42 b B A a c p n d f g w q r s).mono ?_;rintro e i ⟨rfl,rfl⟩;go_wp2;go_ret;exact⟨rfl,rfl⟩
theorem Zd_ (p:Y_)(B:Nat)(A f:X_)(n c g s l:Nat)(G:Z_)(a:Z0)(b:Bool)(w:U1)(h:XL w B A n G a)(V:n≤9223372036854775807)(I:Row w l 32 [(f,g,s)])(J:Sl w B 1 f g (p.map Za))(L:inL a p=b):
  Calls prog 270 #[(A,n,c),.func (Fn.func 214) #[] #[(l,())]] w fun e M=>(∃z:Int,e=.returned z∧decide (0≤z)=b)∧w=M:=by
 have t:=Z h.len;have v:=Z L;have H:=h;have N:=I;have O:=J;go_enter func270,ntmps270;go_wp2;go_loopw [8] (fun i wr=>∃k:Nat,k≤n∧i=.int .i64 k∧w=wr∧Hid (∀j,j<k→decide (a.getD j default=p)=false)) (fun i _=>n-(intOf i).toNat)
 ·exact⟨0,ZY _,rfl,(by trivial),Z (fun j d=>absurd d Y)⟩
 ·obtain⟨k,W,rfl,rfl,y⟩:=hrel;by_cases C:k<n
  ·obtain⟨bb,o,P,Q,R,a0,S,T,a1,D⟩:=H.get C;obtain⟨x,E⟩:=Zb (a.getD k []);have F:=Z E;rw[E]at S D T;subst R;obtain⟨q,U⟩:∃q,decide (x=p)=q:=⟨_,rfl⟩;have m:=Z U;go_wp2_with fail;refine(ZdM x p P f x.length Q g s l B q _ N D O m).mono ?_;rintro e w3 ⟨rfl,rfl⟩;cases q with
   |true=>have r:b=true:=(by rw[←v];exact Zas (es:=a) (p:=fun c=>decide (c=p)) (k:=k) (t ▸ C) (by show decide (a.getD k []=p)=true;rw[F];exact m));subst r;go_wp2;go_ret;exact⟨⟨_,rfl,Ze⟩,rfl⟩
   |false=>
    go_wp2;go_roundw
    ·exact⟨k+1,Y,Zg,(by trivial),Z (fun j d=>by
     rcases Yf j k with h|h;·exact y j h
     ·have e:j=k:=Y;rw[e,show a.getD k default=x from F];exact m)⟩
    ·exact Zh
  ·obtain rfl:k=n:=Y;have r:b=false:=(by rw[←v];exact Zb6 (es:=a) (p:=fun c=>decide (c=p)) (fun j d=>y j (by rw[t]at d;exact d)));subst r;go_wp2;go_ret;exact⟨⟨_,rfl,Ze⟩,rfl⟩
theorem Zfd (p:Y_)(B:Nat)(A d:X_)(n c f j g:Nat)(k:Z_)(i:Z0)(b:Bool)(w:U1)(h:XL w B A n k i)(l:n≤9223372036854775807)(a:Row w g 32 [(d,f,j)])(m:Sl w B 1 d f (p.map Za))(o:inL i p=b):
  Calls prog 213 #[(A,n,c),.func (Fn.func 214) #[] #[(g,())]] w fun e q=>e=.returned (.bool b)∧w=q:=by
 have r:=a;clear a;go_enter func213,ntmps213;go_wp2_with fail;refine(Zd_ p B A d n c f j g k i b w h l r m o).mono ?_;rintro e t ⟨⟨z,rfl,a⟩,rfl⟩;have s:=Z a;clear a;go_wp2;go_ret;exact⟨Xu s,rfl⟩
theorem ZeL (F:U0)(g W:Nat)(d:Dr)(mk:Nat)(m:Zd)(B:Nat)(a f:X_)(l n no p:Nat)(M:Z_)(b:Bool)(w:U1)(h:Yj F w g W d)(O:DOk mk d)(hm:RM w B m a l n f no p M)(hB:B≤w)(a0:M64 m)(a1:∀e∈m.objs,e.name.length≤1048576)(hb:Z1p m d.L=b):
  Calls prog 149 #[(g,()),m.val (a,l,n) (f,no,p)] w fun e w'=>e=.returned (.bool b)∧Below w w w':=by
 have t:Below w w (w.alloc (.cells #[m.seq,m.next,m.P.K,m.P.H,m.P.S,m.extra,(a,l,n),(f,no,p)] 75)):=(Z8 _ _).alloc (Z4 _) _;have H1:=h.new_ t;have Q:=Row.new w 75 #[m.seq,m.next,m.P.K,m.P.H,m.P.S,m.extra,(a,l,n),(f,no,p)];have HM:=hm.below (t.mono hB);have aq:=O.len;have ar:=O.room;obtain⟨x0,x1,x2,x3,x4,x5,x6,x7⟩:=Row.c8 Q;have HB:=Z hb;have ae:B≤(w.alloc (.cells #[m.seq,m.next,m.P.K,m.P.H,m.P.S,m.extra,(a,l,n),(f,no,p)] 75)).heap.size:=Zj hB t.size;have R:=Z ae;unfold Zd.val;go_enter func149,ntmps149;go_wp2_with fail;generalize w.alloc (.cells #[m.seq,m.next,m.P.K,m.P.H,m.P.S,m.extra,(a,l,n),(f,no,p)] 75)=w1 at*;obtain⟨bm,a2⟩:=Zb m.may;refine(Z70 m B a f l n no p M bm w1 HM R a0 a1 a2).mono ?_;rintro e w2 ⟨rfl,v⟩;have a3:=Q.below v Q.lt;have a4:=Z a2;have af:=HM.below (v.mono R);have a5:=Z (Zj R v.size);have T:=t.trans (v.mono t.size);have H2:=H1.new_ v;cases bm with
 |false=>
  have y:b=false:=by rw[←HB];unfold Z1p;rw[a4];rfl
  subst y;go_wp2;go_ret;exact⟨rfl,T⟩
 |true=>
  have ag:(ZI m.seq (pack m)).all (inL d.L)=b:=by rw[←HB];unfold Z1p;rw[a4];rfl
  have a6:=Z ag;go_wp2_with fail;refine(Z9J F g W d mk w2 H2 O).mono ?_;rintro e w3 ⟨A,c,vs,rfl,HO,-,z⟩;have ah:=a3.below z a3.lt;obtain⟨x0,x1,x2,x3,x4,x5,x6,x7⟩:=Row.c8 ah;have a7:=T.trans (z.mono T.size);have ai:=af.below (z.mono a5);have aj:=Z (Zj a5 z.size);go_wp2_with fail;refine(Z3d m B a f l n no p M w3 ai aj a0 a1).mono ?_;rintro e U ⟨Ap,cp,av,rfl,a8,a9⟩;obtain⟨N,C⟩:=Zb ((ZI m.seq (pack m)).length);have aw:N≤9:=by rw[←C];exact Z1D m
  rw[C]at a8 ⊢;have HN:=Z C;have ak:=a8.read C;have al:=(HO.below a9).read rfl;have D:=a7.trans (a9.mono a7.size);go_wp2;go_loopw [16] (fun i wr=>∃k:Nat,k≤N∧i=.int .i64 k∧Below U U wr∧Hid (∀j,j<k→inL d.L ((ZI m.seq (pack m)).getD j [])=true)) (fun i _=>N-(intOf i).toNat)
  ·exact⟨0,ZY _,rfl,Z8 _ _,Z (fun j s=>absurd s Y)⟩
  ·obtain⟨k,hk,rfl,aa,HK⟩:=hrel;have r:=aa;by_cases ab:k<N
   ·have am:(k:Int)<(N:Int):=Y;obtain⟨bb,o,E,G,e',ax,an,ao,ay,ac⟩:=(ak.below aa).get ab;obtain⟨x,I⟩:=Zb ((ZI m.seq (pack m)).getD k []);have ad:=Z I;rw[I]at an ac ao;subst e';obtain⟨q,hq⟩:=Zb (inL d.L x);have V:=Z hq;have J:Below wr wr (wr.alloc (.cells #[(E,x.length,G)] 32)):=(Z8 _ _).alloc (Z4 _) _;have ap:=Row.new wr 32 #[(E,x.length,G)];go_wp2_with fail;generalize wr.alloc (.cells #[(E,x.length,G)] 32)=w5 at*;refine(Zfd x U A E d.L.length c x.length G wr vs d.L q w5 (al.below (r.trans (J.mono r.size))) Y ap (ac.below (J.mono r.size)) V).mono ?_;rintro e w6 ⟨rfl,rfl⟩;cases q with
    |false=>have y:b=false:=(by rw[←a6,List.all_eq_false];refine⟨x,?_,by rw[V];decide⟩;rw[←ad,Z6,Z7 (HN ▸ ab)];exact Zp _);subst y;go_wp2;go_ret;exact⟨rfl,D.trans ((r.trans (J.mono r.size)).mono D.size)⟩
    |true=>
     go_wp2;go_roundw
     ·exact⟨k+1,Y,Zg,r.trans (J.mono r.size),Z (fun j s=>by
      rcases Yf j k with h|h;·exact HK j h
      ·have e:j=k:=Y;rw[e,ad];exact V)⟩
     ·exact Zh
   ·have am:¬(k:Int)<(N:Int):=Y;obtain rfl:k=N:=Y;have y:b=true:=(by rw[←a6,Wq];intro x I;obtain⟨j,s,rfl⟩:=ZZ I;have:=HK j (by rw[HN]at s;exact s);rwa [Z6,Z7 s]at this);subst y;go_wp2;go_ret;exact⟨rfl,D.trans (r.mono D.size)⟩
section
theorem ZfU (q:Int)(p:Y_)(j:Nat):Xo (Z2_ q p j)=none:=by
 have a:(Vu q j (Z0J p) (VV p j).length++VV p j).length≤55:=by rw[Zw,show(Vu q j (Z0J p) (VV p j).length).length=7 by unfold Vu;simp[Z2v]];have:=Z6c p j;omega
 unfold Z2_;rw[Z3l ⟨Y,Y,a⟩];unfold Xo;rw[show BitVec.ofNat 8 (2:Int).toNat=2#8 from rfl,Z8w Z5 a];dsimp only;rw[if_neg (by rintro⟨h,_⟩;cases h)]
theorem Z3e {q:Int}{p:Y_}{c:Y_}(h:c∈ZI q p):Xo c=none:=by unfold ZI at h;obtain⟨j,_,rfl⟩:=ZT.1 h;exact ZfU q p j
theorem Z2D {q:Int}{p:Y_}{c:Y_}(h:c∈ZI q p):c.length=64:=by
 unfold ZI at h;obtain⟨j,_,rfl⟩:=ZT.1 h;have a:(Vu q j (Z0J p) (VV p j).length++VV p j).length≤55:=by rw[Zw,show(Vu q j (Z0J p) (VV p j).length).length=7 by unfold Vu;simp[Z2v]];have:=Z6c p j;omega
 unfold Z2_;rw[Z3l ⟨Y,Y,a⟩];exact Z3T a
theorem Z6m {α:Type}{b:α→α→Bool}(c:∀x,b x x=false)(e:∀x y z,Wl b x y=true→Wl b y z=true→Wl b x z=true):∀(l:List α) (p x:α),x∈p::l→∃y,(y=p∨y∈XW b p l)∧Wl b x y=true
 | [],p,x,h=>⟨p,.inl rfl,by rw[Yn]at h;subst h;simp[Wl,c]⟩
 |y0::r,p,x,h=>by
  unfold XW;rcases Xy.1 h with rfl|h;·exact⟨x,.inl rfl,by simp[Wl,c]⟩
  ·split
   ·rename_i f;rcases Xy.1 h with rfl|h;·exact⟨p,.inl rfl,f⟩
    ·obtain⟨y,a,d⟩:=Z6m c e r y0 x (XB _ h);rcases a with rfl|a;·exact⟨p,.inl rfl,e _ _ _ d f⟩
     ·exact⟨y,.inr a,d⟩
   ·obtain⟨y,a,d⟩:=Z6m c e r y0 x h;refine⟨y,.inr ?_,d⟩;rcases a with rfl|a;·exact XP ..
    ·exact XB _ a
theorem ZhQ {α:Type}{lt:α→α→Bool}(b:∀x,lt x x=false)(c:∀x y z,Wl lt x y=true→Wl lt y z=true→Wl lt x z=true):∀{l:List α} {x:α},x∈l→∃y∈WV lt l,Wl lt x y=true
 | [],_,h=>absurd h Ze
 |p::l,x,h=>by
  obtain⟨y,a,d⟩:=Z6m b c l p x h;refine⟨y,?_,d⟩;unfold WV;rcases a with rfl|a;·exact XP ..
  ·exact XB _ a
theorem Zbp {x y:Rec}:Wl Vz x y=true↔x.O=y.O∧x.B=y.B∧x.I=y.I:=by unfold Wl Vz;simp only[Xp,Bool.not_eq_true',decide_eq_false_iff_not];omega
theorem Z9b {m:Zd}{l:Z0}{c:Y_}{r:Rec}(d:c∈l)(e:Xo c=some r)(f:Vp m r=true):∃q∈YD m l,q.O=r.O∧q.B=r.B∧q.I=r.I:=by have a:r∈Z0O m l:=YW.2 ⟨List.mem_filterMap.2 ⟨c,d,e⟩,f⟩;obtain⟨q,g,h⟩:=ZhQ (lt:=Vz) (fun x=>by unfold Vz;simp) (fun x y z a b=>by rw[Zbp]at a b ⊢;exact⟨a.1.trans b.1,a.2.1.trans b.2.1,a.2.2.trans b.2.2⟩) (Z6b.2 a);refine⟨q,g,?_⟩;have:=Zbp.1 h;exact⟨this.1.symm,this.2.1.symm,this.2.2.symm⟩
theorem Z24 {m:Zd}{l:Z0}{r:Rec}(h:r∈YD m l):(∃c∈l,Xo c=some r)∧Vp m r=true:=by have a:=YW.1 (Z6b.1 (ZaP h));obtain⟨c,b,d⟩:=List.mem_filterMap.1 a.1;exact⟨⟨c,b,d⟩,a.2⟩
def Z4v (P:Zf) (s:BitVec 32) (d:Y_) (i:Nat):Y_:=Z0P P.K.toNat P.H.toNat P.S.toNat s.toNat d i
def Z03 (P:Zf) (s:BitVec 32):Prop:=Wu (P.K.toNat+P.H.toNat) (Y6 P.K.toNat P.H.toNat s.toNat (List.range P.K.toNat))
def Z0v (e:Zr) (b:Nat):BitVec 32:=Wm e.obj b (e.tries.getD b 0)
def Z1z (P:Zf) (D:Int→Y_) (e:Zr) (b:Nat):Y_:=(blocks P (D e.obj)).getD b []
def V5 (P:Zf) (D:Int→Y_) (e:Zr) (b i:Nat):Rec:=⟨e.obj,b,i,P,Z0v e b,Z4v P (Z0v e b) (Z1z P D e b) i⟩
structure WG (m:Zd) (D:Int→List Byte) (L:Nat→List (List Byte)):Prop where
 may:m.may=true
 dat:∀e∈m.objs,((D e.obj).length:Int)=e.len∧∀b,b<e.tries.length→Z03 m.P (Z0v e b)
 ne:m.drives≠ []
 whole:∀s∈m.drives,∀c∈ZI m.seq (pack m),c∈L s.toNat
 len:∀s∈m.drives,∀c∈L s.toNat,c.length=64
 cell:∀s∈m.drives,∀c∈L s.toNat,∀r,Xo c=some r→r.O<m.next∧∀e∈m.objs,e.obj=r.O→Vp m r=true→∃b i,b<e.tries.length∧r=V5 m.P D e b i
 cov:∀e∈m.objs,∀b,b<e.tries.length→∀i,i<m.P.K.toNat+m.extra.toNat→∃s∈m.drives,Yr (V5 m.P D e b i)∈L s.toNat
theorem Z0i {m:Zd}(h:m.may=true){e:Zr}(b:e∈m.objs):Z5H m e:=by obtain⟨i,a,rfl⟩:=ZZ b;have:=Z7p (Yo h) a;rwa [Z6,Z7 a]at this
theorem Za0 {m:Zd}(h:m.may=true){D:Int→Y_}{e:Zr}(a:e∈m.objs)(c:((D e.obj).length:Int)=e.len){b:Nat}(k:b<e.tries.length):(Z1z m.P D e b).length=m.P.K.toNat*m.P.S.toNat:=by have l:=(Z0i h a).count;have d:=(Yo h).P;have f:=Zf.may_ok d;unfold Z1z blocks;rw[c];have g:b<(countP m.P e.len).toNat:=Y;rw[Z6,ZO,Vt g];show(blk _ _ _).length=_;rw[Z2s];unfold Zf.size;obtain⟨n,_,_,_,o,_⟩:=f;have i:m.P.K=(m.P.K.toNat:Int):=Y;have j:m.P.S=(m.P.S.toNat:Int):=Y;rw[i,j];exact ZL (m.P.K.toNat*m.P.S.toNat) ▸ by simp[Z3E]
theorem Z6Z {m:Zd}(h:m.may=true){D:Int→Y_}{e:Zr}(d:e∈m.objs)(f:((D e.obj).length:Int)=e.len){b i:Nat}(g:b<e.tries.length)(k:i≤65535):(V5 m.P D e b i).may=true:=by
 have a:=Z0i h d;have c:=Yo h;have j:=Zf.may_ok c.P;unfold Rec.may;refine decide_eq_true ⟨a.obj.1,?_,Int.natCast_nonneg b,?_,Int.natCast_nonneg i,?_,c.P,?_⟩;·have:=a.obj.2;have:=c.next.2;show e.obj≤_;omega
 ·have:=a.tlen;show(b:Int)<8;omega
 ·show(i:Int)≤_;omega
 ·show((Z0P _ _ _ _ _ _).length:Int)=m.P.S;rw[Z3w (Za0 h d f g)];obtain⟨_,_,_,_,l,_⟩:=j;omega
theorem Z86 {m:Zd}(h:m.may=true){D:Int→Y_}{e:Zr}(a:e∈m.objs)(c:((D e.obj).length:Int)=e.len){b i:Nat}(d:b<e.tries.length)(f:i≤65535):Vp m (V5 m.P D e b i)=true:=by
 unfold Vp;rw[Z6Z h a c d f];have g:Z19 (V5 m.P D e b i) e=true:=by unfold Z19 V5 Z0v;simp only[ZL,decide_true,Bool.true_and,Bool.and_true];exact decide_eq_true Y
 simp only[Bool.true_and,Xp];exact⟨decide_eq_true rfl,Z1u.2 ⟨e,a,g⟩⟩
def Vw (m:Zd) (L:Nat→Z0) (a:W_) (o b:Int):List (Nat×Y_):=a.flatMap fun s=>((YD m (L s.toNat)).filter fun r=>decide (r.O=o∧r.B=b)).map fun r=>(r.I.toNat,r.D)
section
variable {m:Zd} {D:Int→Y_} {L:Nat→Z0}
theorem WG.rec_ (h:WG m D L){s:Int}(f:s∈m.drives){r:Rec}(g:r∈YD m (L s.toNat)){e:Zr}(j:e∈m.objs)(k:e.obj=r.O):∃b i,b<e.tries.length∧i≤65535∧r=V5 m.P D e b i:=by obtain⟨⟨c,l,a⟩,n⟩:=Z24 g;obtain⟨b,i,o,d⟩:=(h.cell s f c l r a).2 e j k n;have p:=(Z4L a).1;have:=(Z26 p).2.2.2.2.2.1;rw[d]at this;exact⟨b,i,o,by have:(i:Int)≤65535:=this;omega,d⟩
theorem Za3 (h:m.may=true):m.P.K.toNat+m.extra.toNat≤32:=by have b:=(Yo h).extra;have a:=Zf.may_ok (Yo h).P;unfold Zf.Ok at a;omega
theorem WG.syms (h:WG m D L){e:Zr}(a:e∈m.objs){b:Nat}(f:b<e.tries.length):
  (∀x∈Vw m L m.drives e.obj b,x.1≤65535∧x.2=Z4v m.P (Z0v e b) (Z1z m.P D e b) x.1)∧∀i,i<m.P.K.toNat+m.extra.toNat→∃x∈Vw m L m.drives e.obj b,x.1=i:=by
 refine⟨fun x c=>?_,fun i g=>?_⟩
 ·unfold Vw at c;obtain⟨s,j,c⟩:=List.mem_flatMap.1 c;obtain⟨r,k,rfl⟩:=ZT.1 c;obtain⟨k,d⟩:=YW.1 k;obtain⟨l,n⟩:=of_decide_eq_true d;obtain⟨o,i,w,g,rfl⟩:=h.rec_ j k a l.symm;have:o=b:=by have:(o:Int)=b:=n;omega
  subst this;exact⟨g,rfl⟩
 ·have c:=Za3 h.may;have d:=(h.dat e a).1;obtain⟨s,j,p⟩:=h.cov e a b f i g;obtain⟨q,t,l,n,v⟩:=Z9b p (Z47 (Z6Z h.may a d f Y)) (Z86 h.may a d f Y);refine⟨(q.I.toNat,q.D),?_,?_⟩;·unfold Vw;refine List.mem_flatMap.2 ⟨s,j,ZT.2 ⟨q,YW.2 ⟨t,decide_eq_true ⟨l,n⟩⟩,rfl⟩⟩
  ·show q.I.toNat=i;rw[v];exact ZL i
theorem WG.same (h:WG m D L){n:Zd}{a:Nat→Z0}(q:n.may=true)(d:n.P=m.P)(v:n.extra=m.extra)(f:n.objs=m.objs)(E:m.next≤n.next)(w:n.drives≠ [])
  (x:∀s∈n.drives,∀c∈ZI n.seq (pack n),c∈a s.toNat)
  (o:∀s∈n.drives,∀c∈a s.toNat,c.length=64∧(Xo c=none∨∃t∈m.drives,c∈L t.toNat))
  (y:∀e∈m.objs,∀b,b<e.tries.length→∀i,i<m.P.K.toNat+m.extra.toNat→∃s∈n.drives,Yr (V5 m.P D e b i)∈a s.toNat):WG n D a:=by
 refine⟨q,?_,w,x,fun s g c j=>(o s g c j).1,?_,?_⟩;·rw[f,d];exact h.dat
 ·intro s g c j r k;rcases(o s g c j).2 with l|⟨t,z,l⟩;·rw[l]at k;cases k
  ·obtain⟨F,A⟩:=h.cell t z c l r k;refine⟨Y,?_⟩;rw[f,d];intro e B C p;refine A e B C ?_;unfold Vp at p ⊢;rwa [f,d]at p
 ·rw[f,d,v];exact y
theorem ZiH {P:Zf}{D a:Int→Y_}{e:Zr}(h:a e.obj=D e.obj)(b:Nat):Z1z P a e b=Z1z P D e b:=by unfold Z1z;rw[h]
theorem ZaW {P:Zf}{D a:Int→Y_}{e:Zr}(h:a e.obj=D e.obj)(b i:Nat):V5 P a e b i=V5 P D e b i:=by unfold V5;rw[ZiH h]
theorem WG.put (h:WG m D L){n:Zd}{g:Int→Y_}{x:Zr}{p:Nat→Z0}(N:n.may=true)(k:n.P=m.P)(O:n.extra=m.extra)(Q:x.obj=m.next)(l:∀e,e∈n.objs↔e∈m.objs∨e=x)(a0:n.next=m.next+1)(I:n.drives=m.drives)
  (C:∀z,z≠m.next→g z=D z) (R:((g x.obj).length:Int)=x.len) (S:∀b,b<x.tries.length→Z03 m.P (Z0v x b))
  (T:∀s∈n.drives,∀c∈ZI n.seq (pack n),c∈p s.toNat)
  (U:∀s∈m.drives,∀c∈L s.toNat,c∈p s.toNat)
  (E:∀s∈n.drives,∀c∈p s.toNat,c.length=64∧(Xo c=none∨(∃t∈m.drives,c∈L t.toNat)∨∃b i,b<x.tries.length∧c=Yr (V5 m.P g x b i)))
  (V:∀b,b<x.tries.length→∀i,i<m.P.K.toNat+m.extra.toNat→∃s∈m.drives,Yr (V5 m.P g x b i)∈p s.toNat):WG n g p:=by
 have w:∀e∈m.objs,e.obj≠m.next:=fun e d J=>Zc ((Z0i h.may d).obj.2);refine⟨N,?_,by rw[I];exact h.ne,T,fun s j c A=>(E s j c A).1,?_,?_⟩
 ·intro e d;rw[k];rcases(l e).1 d with a|rfl;·rw[C _ (w e a)];exact h.dat e a
  ·exact⟨R,S⟩
 ·intro s j c A r f;rcases(E s j c A).2 with a|⟨t,W,a⟩|⟨b,i,o,a⟩;·rw[a]at f;cases f
  ·obtain⟨M,h3⟩:=h.cell t W c a r f;refine⟨Y,fun e d F q=>?_⟩;rw[k];rcases(l e).1 d with B|rfl
   ·obtain⟨b,i,o,J⟩:=h3 e B F (by
     unfold Vp at q ⊢;simp only[Xp]at q ⊢;refine⟨q.1,?_,?_⟩;·rw[←k];exact q.2.1
     ·obtain⟨y,hy,G⟩:=Z1u.1 q.2.2;refine Z1u.2 ⟨y,?_,G⟩;rcases(l y).1 hy with v|rfl;·exact v
      ·unfold Z19 at G;simp only[Xp,decide_eq_true_eq]at G;omega)
    exact⟨b,i,o,by rw[ZaW (C _ (w e B))];exact J⟩
   ·omega
  ·have hm:=Z4L f;have a1:x∈n.objs:=(l x).2 (.inr rfl);rcases Bool.eq_false_or_eq_true (V5 m.P g x b i).may with v|v
   ·rw[a,Z47 v]at f;injection f with f;subst f;refine⟨by show x.obj<_;omega,fun e d F _=>?_⟩;rcases(l e).1 d with B|rfl;·exact absurd (F.trans Q) (w e B)
    ·exact⟨b,i,o,by rw[k]⟩
   ·have h6:Yr (V5 m.P g x b i)=[]:=(by unfold Yr;rw[v];rfl);have:=(E s j c A).1;rw[a,h6]at this;cases this
 ·intro e d b o i H;rw[k,O]at H;rw[k,I];rcases(l e).1 d with a|rfl;·obtain⟨s,j,M⟩:=h.cov e a b o i H;exact⟨s,j,U s j _ (by rw[ZaW (C _ (w e a))];exact M)⟩
  ·exact V b o i H
theorem WG.away (h:WG m D L){z:Int}(W:z∈m.drives){d:W_}(w:∀s,s∈d↔s∈m.drives∧s≠z){k:Nat→Z0}
  (x:∀s∈d,∀c∈L s.toNat,c∈k s.toNat)
  (Q:∀r∈YD m (L z.toNat),(∃s∈d,∃q∈YD m (L s.toNat),q.O=r.O∧q.B=r.B∧q.I=r.I)∨∃s∈d,Yr r∈k s.toNat):
  ∀e∈m.objs,∀b,b<e.tries.length→∀i,i<m.P.K.toNat+m.extra.toNat→∃s∈d,Yr (V5 m.P D e b i)∈k s.toNat:=by
 intro e f b l i R;have hx:=Za3 h.may;have y:=(h.dat e f).1;obtain⟨s,A,C⟩:=h.cov e f b l i R;by_cases E:s=z
 ·subst E;obtain⟨q,F,g,G,H⟩:=Z9b C (Z47 (Z6Z h.may f y l Y)) (Z86 h.may f y l Y);have J:∀{t:Int} (_:t∈m.drives) {p:Rec} (_:p∈YD m (L t.toNat)),p.O=e.obj→p.B=b→p.I=i→p=V5 m.P D e b i:=by intro t a p j n o v;obtain⟨M,N,_,_,rfl⟩:=h.rec_ a j f n.symm;have:M=b:=(by have:(M:Int)=b:=o;omega);subst this;have:N=i:=(by have:(N:Int)=i:=v;omega);subst this;rfl
  rcases Q q F with ⟨t,a,p,j,n,o,v⟩|⟨t,a,S⟩;·have T:=((w t).1 a).1;have:=J T j (n.trans g) (o.trans G) (v.trans H);subst this;obtain⟨⟨c,U,V⟩,_⟩:=Z24 j;have:=(Z4L V).2;exact⟨t,a,by rw[this];exact x t a c U⟩
  ·have:=J A F g G H;subst this;exact⟨t,a,S⟩
 ·have g:=(w s).2 ⟨A,E⟩;exact⟨s,g,x s g _ C⟩
end
def YT (l:Z0):Nat:=l.countP fun c=>(Xo c).isSome
theorem Z3r (a b:Z0):YT (a++b)=YT a+YT b:=List.countP_append
theorem Z5p (l:Z0):YT l≤l.length:=List.countP_le_length
theorem Zf7 {l:Z0}(h:∀c∈l,Xo c=none):YT l=0:=by unfold YT;rw[List.countP_eq_zero];intro c a;rw[h c a];decide
theorem Z21 (q:Int)(p:Y_):YT (ZI q p)=0:=Zf7 fun _ h=>Z3e h
theorem Z7I {α β:Type}(f:α→Option β):∀l:List α,(l.filterMap f).length=l.countP fun c=>(f c).isSome
 | []=>rfl
 |x::l=>by rw[List.filterMap_cons,List.countP_cons,←Z7I f l];cases f x <;> simp
theorem Z3f (m:Zd)(l:Z0):(YD m l).length≤YT l:=by unfold YD YT;rw[←Z7I];refine Zj (ZcU _) ?_;rw[Z0T];exact Wx _ _
def ZW {α:Type} (f:α→Nat):List α→Nat
 | []=>0
 |x::l=>f x+ZW f l
theorem Z5f {α:Type}{f:α→Nat}:∀{l:List α} {x:α},x∈l→f x≤ZW f l
 |y::l,x,h=>by
  rcases Xy.1 h with rfl|h;·exact Nat.le_add_right _ _
  ·exact Zj (Z5f h) (Nat.le_add_left _ _)
theorem Z5d {α:Type}(f g:α→Nat):∀l:List α,ZW (fun x=>f x+g x) l=ZW f l+ZW g l
 | []=>rfl
 |x::l=>by simp only[ZW,Z5d f g l];omega
theorem Z60 {α β:Type}(p:α→β→Bool):∀(d:List α) (l:List β),(∀x∈l,∀a∈d,∀b∈d,p a x=true→p b x=true→a=b)→d.Nodup→ZW (fun a=>l.countP (p a)) d≤l.length
 |d, [],_,_=>by
  induction d with
  |nil=>exact Z4 _
  |cons a d f=>simp only[ZW,List.countP_nil,Wz];exact f Ze (by simp_all)
 |d,x::l,h,hn=>by
  have f:=Z60 p d l (fun y o=>h y (XB _ o)) hn;have e:ZW (fun a=>(x::l).countP (p a)) d=ZW (fun a=>l.countP (p a)) d+ZW (fun a=>if p a x then 1 else 0) d:=by rw[←Z5d];congr 1;funext a;exact List.countP_cons
  rw[e,XQ];have q:ZW (fun a=>if p a x then 1 else 0) d≤1:=by
   have i:=h x (XP ..);clear f e h;induction d with
   |nil=>exact ZY _
   |cons a d f=>
    simp only[ZW];by_cases j:p a x=true
    ·rw[if_pos j];have:ZW (fun a=>if p a x then 1 else 0) d=0:=by
      have n:∀b∈d,p b x=false:=fun b g=>by
       rcases Bool.eq_false_or_eq_true (p b x) with k|k;·have:=i a (XP ..) b (XB _ g) j k;subst this;exact absurd g (List.nodup_cons.1 hn).1
       ·exact k
      clear f i hn;induction d with
      |nil=>rfl
      |cons b d ih2=>simp only[ZW,n b (XP ..)];rw[ih2 fun c m=>n c (XB _ m)];rfl
     omega
    ·rw[if_neg j,Wz];exact f (List.nodup_cons.1 hn).2 fun c m b g=>i c (XB _ m) b (XB _ g)
  omega
end
theorem Z2S {m:Zd}(h:m.may=true):M64 m:=by
 have a:=Yo h;have j:=a.seq;have k:=a.next;have f:=Zf.may_ok a.P;have l:=a.extra;unfold Zf.Ok at f;refine⟨by unfold i64;omega,by unfold i64;omega,by unfold i64;omega,by unfold i64;omega,by unfold i64;omega,by unfold i64;omega,fun z d=>?_,fun e g=>?_⟩;·obtain⟨i,b,rfl⟩:=ZZ d;have:=Z4a a.drives b;rw[Z6,Z7 b]at this;simp only[Yz]at this;unfold i64;omega
 ·have c:=Z0i h g;have n:=c.obj;have o:=c.len;have p:=c.len2;refine⟨by unfold i64;omega,by unfold i64;omega,fun z d=>?_⟩;obtain⟨i,b,rfl⟩:=ZZ d;have:=Z9r c.tries b;rw[Z6,Z7 b]at this;simp only[Yz]at this;unfold i64;omega
theorem Z2u {m:Zd}(h:m.may=true):∀e∈m.objs,e.name.length≤1048576:=fun e a=>by have:=(Z0i h a).nlen;omega
theorem Z0e {m:Zd}(h:m.may=true):m.drives.length≤64∧m.objs.length≤12:=⟨Z6N (Yo h).drives,(Yo h).olen⟩
theorem WG.rank {m:Zd}{D:Int→Y_}{L:Nat→Z0}(h:WG m D L){e:Zr}(a:e∈m.objs)(b:n<e.tries.length){ids:List Nat}(c:ids=(Vw m L m.drives e.obj n).map Prod.fst):
  Wu (m.P.K.toNat+m.P.H.toNat) (Y6 m.P.K.toNat m.P.H.toNat (Z0v e n).toNat ids):=by
 refine Ziy (ids:=List.range m.P.K.toNat) (fun i d=>?_) ((h.dat e a).2 n b);obtain⟨x,f,g⟩:=(h.syms a b).2 i (Zc (Ws.1 d));rw[c];exact ZT.2 ⟨x,f,g⟩
theorem WG.wholes {m:Zd}{D:Int→Y_}{L:Nat→Z0}(h:WG m D L):∀s∈m.drives,Z1p m (L s.toNat)=true:=fun s a=>by unfold Z1p;rw[h.may,Bool.true_and,Wq];intro c b;have:=h.whole s a c b;unfold inL;simpa using this
theorem WG.pos {m:Zd}{D:Int→Y_}{L:Nat→Z0}(h:WG m D L):∀s∈m.drives,∀r∈YD m (L s.toNat),0≤r.I:=fun s c r b=>by have a:=(Z24 b).2;unfold Vp at a;simp only[Xp]at a;exact(Z26 a.1).2.2.2.2.1
theorem Zh5 (B n c:Nat)(A:X_)(l:W_)(f:Nat)(v:Array U2)(p:Int→Bool)(w:U1)(V:∀y w,(callFunc f y).run prog w=.ok (.enter f y) w)
  (r:Sl w B 1 A n (l.map iv)) (N:B≤w) (W:n≤100000)
  (C:∀x∈l,∀a,Below w w a→Calls prog f (#[.int .i64 x]++v) a fun e O=>e=.returned (.bool (p x))∧Below a a O):
  Calls prog 106 #[(A,n,c),.func (.func f) #[] v] w fun e a=>(∃z:Int,e=.returned z∧decide (0≤z)=l.any p)∧Below w w a:=by
 have D:l.length=n:=by have:=r.len;simpa using this
 have P:=Z C;have Q:=Z r;have E:=Z D;clear C r D;go_enter func106,ntmps106;go_wp2;go_loopw [5,8] (fun _ i wr=>∃k:Nat,k≤n∧i=.int .i64 (k:Int)∧Hid (∀j,j<k→p (l.getD j 0)=false)∧Hid (Below w w wr)) (fun _ i _=>n-(intOf i).toNat)
 ·exact⟨0,ZY _,rfl,Z (fun j g=>absurd g Y),Z (Z8 _ _)⟩
 ·obtain⟨k,hk,rfl,F,d⟩:=hrel;by_cases G:k<n
  ·have a0:(k:Int)<(n:Int):=Y;have h:k<l.length:=(by rw[E];exact G);obtain⟨be,oe,rfl,a1,R⟩:=(Q.below (d.mono N)).get G (Xx l k h);have q:=P (l.getD k 0) (by rw[Z6,Z7 h];exact Zp _) wr d;obtain⟨x,m⟩:=Zb (l.getD k 0);have H:=Z m;rw[m]at q R;obtain⟨b,s⟩:=Zb (p x);have I:=Z s;rw[s]at q;have J:=Z q;clear q m s;cases b with
   |true=>
    have L:l.any p=true:=Z1u.2 ⟨x,by rw[←H,Z6,Z7 h];exact Zp _,I⟩;have S:=Z L;clear L h;go_wp2_with (go_at_fn f;go_must (refine(J).mono ?_);rintro e a ⟨rfl,o⟩;have t:=Z o;clear o)
    go_ret;exact⟨⟨_,rfl,by rw[S];simp⟩,d.trans (t.mono d.size)⟩
   |false=>
    clear h;go_wp2_with (go_at_fn f;go_must (refine(J).mono ?_);rintro e a ⟨rfl,o⟩;have t:=Z o;clear o)
    go_roundw
    ·refine⟨k+1,Y,Zg,Z (fun j g=>?_),Z (d.trans (t.mono d.size))⟩;by_cases T:j=k;·subst T;rw[H];exact I
     ·exact F j Y
    ·exact Zh
  ·obtain rfl:k=n:=Y;have M:l.any p=false:=(by rw[List.any_eq_false];intro x m;obtain⟨j,g,rfl⟩:=ZZ m;have:=F j (by rw[←E];exact g);rw[Z6,Z7 g]at this;simpa using this);have U:=Z M;clear M;go_wp2;go_ret;exact⟨⟨_,rfl,by rw[U];simp⟩,d⟩
theorem Z6h (B n c:Nat)(A:X_)(l:W_)(f:Nat)(g:Array U2)(p:Int→Bool)(b:Bool)(w:U1)(m:∀i w,(callFunc f i).run prog w=.ok (.enter f i) w)
  (j:Sl w B 1 A n (l.map iv)) (o:B≤w) (q:n≤100000) (d:l.any p=b)
  (k:∀x∈l,∀a,Below w w a→Calls prog f (#[.int .i64 x]++g) a fun e r=>e=.returned (.bool (p x))∧Below a a r):
  Calls prog 109 #[(A,n,c),.func (.func f) #[] g] w fun e a=>e=.returned (.bool b)∧Below w w a:=by
 have H:=Z (Zh5 B n c A l f g p w m j o q k);have s:=Z d;clear j k d;go_enter func109,ntmps109;go_wp2_with (go_at_call 106;go_must (refine H.mono ?_);rintro e a ⟨⟨z,rfl,h⟩,d⟩;rw[s]at h;have t:=Z h;have v:=Z d;clear h d)
 go_ret;exact⟨Xu t,v⟩
theorem Zce (c:Y_)(g:Nat)(e:Zr)(a:U2)(b:Bool)(w:U1)(d:Row w g 9 [.string (Zn c)])(h:decide (e.name=c)=b):
  Calls prog 147 #[.agg #[.string (Zn e.name),e.obj,e.len,a],(g,())] w fun n o=>n=.returned (.bool b)∧Below w w o:=by
 have f:Below w w (w.alloc (.cells #[.string (Zn e.name),e.obj,e.len,a] 116)):=(Z8 _ _).alloc (Z4 _) _;have i:=(d.below f d.lt).cell 0;simp only[ZE]at i;have j:=Row.new w 116 #[.string (Zn e.name),e.obj,e.len,a];have k:=j.cell 0;simp only[ZE]at k;have l:=Z f;have m:((Zn e.name).toList==(Zn c).toList)=b:=by rw[Zgx,h]
 have p:=Z m;clear d h f j m;go_enter func147,ntmps147;go_upto_region 1 with fail;generalize (w.alloc (.cells #[.string (Zn e.name),e.obj,e.len,a] 116))=w1 at l i k ⊢;go_wp2;go_ret;exact⟨Xu p,l⟩
theorem Zf5 (b:Y_)(g B n c:Nat)(A:X_)(D:Z_)(d:List Zr)(w:U1)(h:V8 w B A n D d)(E:B≤w)(U:n≤100000)(F:Row w g 9 [.string (Zn b)]):
  Calls prog 146 #[(A,n,c),.func (Fn.func 147) #[] #[(g,())]] w fun e m=>
   ((∃i:Nat,e=.returned (i:Int)∧i<n∧(d.getD i default).name=b)∨(e=.returned (.int .i64 (-1))∧∀x∈d,x.name≠b))∧Below w w m:=by
 have V:∀p w,(callFunc 147 p).run prog w=.ok (.enter 147 p) w:=fun _ _=>rfl;have G:=Z h.len;have H:=h;have r:=F;go_enter func146,ntmps146;go_wp2;go_loopw [8] (fun i wr=>∃k:Nat,k≤n∧i=.int .i64 (k:Int)∧Hid (Below w w wr)∧Hid (∀j,j<k→(d.getD j default).name≠b)) (fun i _=>n-(intOf i).toNat)
 ·exact⟨0,ZY _,rfl,Z (Z8 _ _),Z (fun j f=>absurd f Y)⟩
 ·obtain⟨k,W,rfl,a,s⟩:=hrel;have a0:=a.size;by_cases t:k<n
  ·have a1:(k:Int)<(n:Int):=Y;obtain⟨bb,o',I,J,L,a2,M,N,O,P,Q,a3,R⟩:=(H.below (a.mono E)).get t;subst L;obtain⟨x,l⟩:=Zb (d.getD k default);have v:=Z l;rw[l]at M N O P Q R;have S:=r.below a r.lt;obtain⟨q,y⟩:∃q,decide (x.name=b)=q:=⟨_,rfl⟩;have z:=Zce b g x (I,x.tries.length,J) q wr S y;have C:=Z y;cases q with
   |true=>
    go_wp2_with (go_at_fn 147;go_must (refine z.mono ?_);rintro e m ⟨rfl,o⟩)
    go_ret;exact⟨.inl ⟨k,rfl,t,by rw[v];exact of_decide_eq_true C⟩,a.trans (o.mono a.size)⟩
   |false=>
    go_wp2_with (go_at_fn 147;go_must (refine z.mono ?_);rintro e m ⟨rfl,o⟩)
    go_roundw
    ·refine⟨k+1,Y,Zg,Z (a.trans (o.mono a.size)),Z (fun j f=>?_)⟩;by_cases T:j=k;·subst T;rw[v];exact of_decide_eq_false C
     ·exact s j Y
    ·exact Zh
  ·obtain rfl:k=n:=Y;go_wp2;go_ret;refine⟨.inr ⟨rfl,fun x l=>?_⟩,a⟩;obtain⟨j,f,rfl⟩:=ZZ l;have:=s j (G ▸ f);rw[Z6,Z7 f]at this;exact this
theorem Z8N (a:Y_)(k B:Nat)(C:Nat→Nat)(F:Nat→U0)(p:Pw)(D:Nat→Option Dr)(m:Zd)(E l:X_)(G H no n:Nat)(q:Z_)(w:U1)(h:SM w k B C F p D m E G H l no n q)(I:no≤100000):
  Calls prog 90 #[(k,()),.string (Zn a)] w fun e J=>
   ((∃i:Nat,e=.returned (i:Int)∧i<no∧(m.objs.getD i default).name=a)∨(e=.returned (.int .i64 (-1))∧∀x∈m.objs,x.name≠a))∧Below w w J:=by
 have d:Below w w (w.alloc (.cells #[.string (Zn a)] 9)):=(Z8 _ _).alloc (Z4 _) _;have r:=Row.new w 9 #[.string (Zn a)];have f:=h.new_ d;have L:=f.cells.1.2.2.2.2.2.2.2;have s:=f.mani.now.o;have t:=Z s;have v:=Z r;have b:=Z d;clear h f d r s;go_enter func90,ntmps90;go_upto_region 1 with fail;generalize hw1:(w.alloc (.cells #[.string (Zn a)] 9))=w1 at b v t L ⊢;have y:w.heap.size≤w1.heap.size:=b.size;clear hw1;go_wp2_with fail;refine(Zf5 a w w1 no n l q m.objs w1 t (Z4 _) I v).mono ?_;rintro e N ⟨⟨i,rfl,M,z⟩|⟨rfl,A⟩,c⟩;·have g:=Z z;have j:=Z c;clear z c;go_wp2;go_ret;exact⟨.inl ⟨i,rfl,M,g⟩,b.trans (j.mono y)⟩
 ·have g:=Z A;have j:=Z c;clear A c;go_wp2;go_ret;exact⟨.inr ⟨rfl,g⟩,b.trans (j.mono y)⟩
