/- InaE Way SolK -/
import Derived.Test.YtpokipdpjhookaaGreatDoorBTopRetires12
import Derived.Test.YtpokipdpjhookaaGreatDoorBTopRetires14
import Derived.Test.YtpokipdpjhookaaGreatDoorBTopRetires15
set_option maxHeartbeats 8000000
set_option maxRecDepth 20000
set_option linter.all false
namespace Go.Proofs
open Go Go.RowKit Tryz
variable {n m k:Nat} {w v:World} {t:TypeId} {A:Option Addr} {l L q:List Value} {x:Value} {s:List Int} {r:List Byte}
def stC (l:List (Nat×Int)):Z_:=l.flatMap fun t=> [.int .i64 (t.1:Int),.int .i64 t.2]
theorem Zh3 (l:List (Nat×Int))(x:Nat×Int):stC (l++ [x])=stC l++ [.int .i64 (x.1:Int),.int .i64 x.2]:=by simp[stC]
section
theorem Zhe:(prog.info? 354).map (fun i=>(i.zero,i.size,i.bytes))=some (some (.agg #[Nat,Nat]),2,16):=Zi
theorem Va {w:U1}{g b:Nat}{t c:TypeId}{d f:Z_}(h:Row w g t d)(a:Row w b c f)(i:t≠c):g≠b:=fun e=>by subst e;unfold Row at h a;rw[h]at a;injection a with a;injection a with _ a _;exact i a
theorem Wv {w c:U1}{base g f n:Nat}{t e:TypeId}{d i:Z_}{v:U2}(h:Row w g t d)(j:w.ownsRow base e f v n i)(k:w.grownBy c v.ownBlock)(l:e≠t):Row c g t d:=
 h.grown k (fun a=>by
  rcases own_ne j h l with b|b;·rw[b]at a;cases a
  ·exact b a.symm)
theorem Z2I {w:U1}{g B:Nat}{t:TypeId}{a:Z_}(h:Row w g t a)(d:a.length=2)(b:g<B):Sl w B 2 (some ⟨g,0,none⟩) 1 a:=
 ⟨Y,fun _=>⟨g,0,rfl,b,fun j u c=>by rw[Wz,h.cell];exact c⟩⟩
structure PJ (base:Nat) (w0 w:World) (gp go gu gt gres:Nat) (B:Nat) (A:Option Addr) (n c N:Nat) (vs:List Value) (L:List (List Int)) (s:ZJ) (v1 v2:Value):Prop where
 pl:PL w gp go gu A n c N s
 out:Row w gt 285 [v1,v2,.slice none 0 0]
 res:Row w gres 285 [.slice none 0 0,.slice none 0 0,.slice none 0 0]
 st:w.ownsRow base 354 2 v1 s.steps.length (stC s.steps)
 de:w.ownsRow base 3 1 v2 s.dead.length (s.dead.map iv)
 rows:RIs w B A n vs L
 be:Below base w0 w
 ge:base≤gp∧base≤go∧base≤gu∧base≤gt∧base≤gres∧B≤base∧gres≠gt∧go≠gu
 sz:base≤w.heap.size
section
variable {base:Nat} {w0 w w':U1} {gp go gu gt gres B:Nat} {A:X_} {n c N:Nat} {vs:Z_} {L:List (W_)} {s:ZJ} {v1 v2:U2}
theorem PJ.below (h:PJ base w0 w gp go gu gt gres B A n c N vs L s v1 v2)(a:Below w.heap.size w w'):PJ base w0 w' gp go gu gt gres B A n c N vs L s v1 v2:=
 ⟨h.pl.below a,h.out.below a h.out.lt,h.res.below a h.res.lt,h.st.kept (ZB a none) (by cases v1.ownBlock <;> simp),h.de.kept (ZB a none) (by cases v2.ownBlock <;> simp),h.rows.below (a.mono (YU h.ge h.sz)),h.be.trans (a.mono h.sz),h.ge,Zj h.sz a.size⟩
theorem PL.own1 {e:TypeId}{f m:Nat}{v:U2}{g:Z_}(h:PL w gp go gu A n c N s)(a:w.ownsRow base e f v m g)(b:w.grownBy w' v.ownBlock)(i:e≠408)(d:e≠4):PL w' gp go gu A n c N s:=
 ⟨Wv h.row a b i,Wv h.o a b d,Wv h.u a b d⟩
theorem PJ.ne (h:PJ base w0 w gp go gu gt gres B A n c N vs L s v1 v2):gt≠gp∧gt≠go∧gt≠gu∧gp≠go∧gp≠gu∧gres≠go∧gres≠gu:=
 ⟨Va h.out h.pl.row Z5,Va h.out h.pl.o Z5,Va h.out h.pl.u Z5,Va h.pl.row h.pl.o Z5,Va h.pl.row h.pl.u Z5,Va h.res h.pl.o Z5,Va h.res h.pl.u Z5⟩
theorem PJ.st1 (h:PJ base w0 w gp go gu gt gres B A n c N vs L s v1 v2){b:U2}{x:Nat×Int}(j:w'.ownsRow base 354 2 b (s.steps.length+1) (stC s.steps++ [.int .i64 (x.1:Int),.int .i64 x.2]))(a:w.grownBy w' v1.ownBlock):
  Row w' gt 285 [v1,v2,.slice none 0 0]∧PJ base w0 (w'.setCell ⟨gt,0,none⟩ b) gp go gu gt gres B A n c N vs L ⟨s.opn,s.used,s.steps++ [x],s.dead⟩ b v2:=by
 have i:(354:TypeId)≠285:=Z5;have k:(354:TypeId)≠408:=Z5;have l:(354:TypeId)≠4:=Z5;have d:=Wv h.out h.st a i;have f:=h.pl.own1 h.st a k l;have m:=Wv h.res h.st a i;have q:=h.de.kept a (YF h.de h.st Z5);have r:=Y9 h.be h.st a (Z4 _) h.sz;have g:=h.ne;have e:=h.ge;refine⟨d,⟨⟨f.row.far (p:=⟨gt,0,none⟩) g.1.symm _,f.o.far (p:=⟨gt,0,none⟩) g.2.1.symm _,f.u.far (p:=⟨gt,0,none⟩) g.2.2.1.symm _⟩,d.set 0 b,m.far (p:=⟨gt,0,none⟩) e.2.2.2.2.2.2.1 _,?_,q.farC d Z5 0 _,?_,r.setCell (p:=⟨gt,0,none⟩) e.2.2.2.1 _,e,?_⟩⟩;·have:=j.farC d Z5 0 b;rw[←Zh3]at this;simpa using this
 ·exact(h.rows.below ((Y9 (Z8 w.heap.size w |>.mono (Z4 _) |>.mono h.sz) h.st a (Z4 _) h.sz).mono e.2.2.2.2.2.1)).below ((Z8 _ _).setCell (p:=⟨gt,0,none⟩) (by show B≤gt;omega) _)
 ·have:=a.size;have:=h.sz;simp only[World.setCell];simp;omega
theorem PJ.de1 (h:PJ base w0 w gp go gu gt gres B A n c N vs L s v1 v2){b:U2}{x:Int}(j:w'.ownsRow base 3 1 b (s.dead.length+1) (s.dead.map iv++ [iv x]))(a:w.grownBy w' v2.ownBlock):
  Row w' gt 285 [v1,v2,.slice none 0 0]∧PJ base w0 (w'.setCell ⟨gt,1,none⟩ b) gp go gu gt gres B A n c N vs L ⟨s.opn,s.used,s.steps,s.dead++ [x]⟩ v1 b:=by
 have i:(3:TypeId)≠285:=Z5;have k:(3:TypeId)≠408:=Z5;have l:(3:TypeId)≠4:=Z5;have d:=Wv h.out h.de a i;have f:=h.pl.own1 h.de a k l;have m:=Wv h.res h.de a i;have q:=h.st.kept a (YF h.st h.de Z5);have r:=Y9 h.be h.de a (Z4 _) h.sz;have g:=h.ne;have e:=h.ge;refine⟨d,⟨⟨f.row.far (p:=⟨gt,1,none⟩) g.1.symm _,f.o.far (p:=⟨gt,1,none⟩) g.2.1.symm _,f.u.far (p:=⟨gt,1,none⟩) g.2.2.1.symm _⟩,d.set 1 b,m.far (p:=⟨gt,1,none⟩) e.2.2.2.2.2.2.1 _,q.farC d Z5 1 _,?_,?_,r.setCell (p:=⟨gt,1,none⟩) e.2.2.2.1 _,e,?_⟩⟩;·have:=j.farC d Z5 1 b;simpa using this
 ·exact(h.rows.below ((Y9 (Z8 w.heap.size w |>.mono (Z4 _) |>.mono h.sz) h.de a (Z4 _) h.sz).mono e.2.2.2.2.2.1)).below ((Z8 _ _).setCell (p:=⟨gt,1,none⟩) (by show B≤gt;omega) _)
 ·have:=a.size;have:=h.sz;simp only[World.setCell];simp;omega
theorem PJ.close (h:PJ base w0 w gp go gu gt gres B A n c N vs L s v1 v2)(z:Nat):PJ base w0 (w.setCell ⟨go,z,none⟩ (.bool false)) gp go gu gt gres B A n c N vs L ⟨s.opn.set z false,s.used,s.steps,s.dead⟩ v1 v2:=by have a:=h.ne;have b:=h.ge;refine⟨⟨h.pl.row.far (p:=⟨go,z,none⟩) a.2.2.2.1 _,?_,h.pl.u.far (p:=⟨go,z,none⟩) b.2.2.2.2.2.2.2.symm _⟩,h.out.far (p:=⟨go,z,none⟩) a.2.1 _,h.res.far (p:=⟨go,z,none⟩) a.2.2.2.2.2.1 _,h.st.farC h.pl.o Z5 _ _,h.de.farC h.pl.o Z5 _ _,h.rows.below ((Z8 _ _).setCell (p:=⟨go,z,none⟩) (by show B≤go;omega) _),h.be.setCell (p:=⟨go,z,none⟩) b.2.1 _,b,by simp[World.setCell];exact h.sz⟩;have:=h.pl.o.set z (.bool false);show Row _ go _ ((s.opn.set z false).map Value.bool);rw[XZ];exact this
theorem PJ.use (h:PJ base w0 w gp go gu gt gres B A n c N vs L s v1 v2)(z:Nat):PJ base w0 (w.setCell ⟨gu,z,none⟩ (.bool true)) gp go gu gt gres B A n c N vs L ⟨s.opn,s.used.set z true,s.steps,s.dead⟩ v1 v2:=by have a:=h.ne;have b:=h.ge;refine⟨⟨h.pl.row.far (p:=⟨gu,z,none⟩) a.2.2.2.2.1 _,h.pl.o.far (p:=⟨gu,z,none⟩) b.2.2.2.2.2.2.2 _,?_⟩,h.out.far (p:=⟨gu,z,none⟩) a.2.2.1 _,h.res.far (p:=⟨gu,z,none⟩) a.2.2.2.2.2.2 _,h.st.farC h.pl.u Z5 _ _,h.de.farC h.pl.u Z5 _ _,h.rows.below ((Z8 _ _).setCell (p:=⟨gu,z,none⟩) (by show B≤gu;omega) _),h.be.setCell (p:=⟨gu,z,none⟩) b.2.2.1 _,b,by simp[World.setCell];exact h.sz⟩;have:=h.pl.u.set z (.bool true);show Row _ gu _ ((s.used.set z true).map Value.bool);rw[XZ];exact this
end
def isT:U2→Bool| .bool true=>true|_=>false
def Z7w (a:Act) (w:U1):Nat:=match a.tmps.getD 6 undef with
 | .pointer (some p)=>match w.cell? ⟨p.block,1,none⟩ with
  |some (.slice (some q) _ _)=>match w.heap[q.block]? with
   |some (.cells cs _ _)=>cs.toList.countP isT
   |_=>0
  |_=>0
 |_=>0
theorem Z6R {a:Act}{w:U1}{gp go gu:Nat}{A:X_}{n c N:Nat}{s:ZJ}(h:PL w gp go gu A n c N s)(e:a.tmps.getD 6 undef=.pointer (some ⟨gp,0,none⟩)):Z7w a w=s.opn.countP id:=by have f:=Z9 h.row 1;have d:=h.o;unfold Row at d;unfold Z7w;rw[e];simp only[f,d,Z2T];rw[List.countP_map];congr 1;funext b;cases b <;> rfl
theorem Z6B:∀(l:List Bool) (i:Nat),i<l.length→l.getD i false=true→(l.set i false).countP id+1=l.countP id
 | [],i,h,_=>absurd h Ze
 |b::l,0,_,h=>by simp only[List.getD_cons_zero]at h;subst h;simp
 |b::l,i+1,h,h2=>by simp only[Xz,List.countP_cons];have:=Z6B l i (by simpa using h) (by simpa using h2);omega
def Vi (s:ZJ) (k:Nat):List Nat:=(List.range k).filter fun i=> !s.isU i
theorem Zh1 (s:ZJ)(k:Nat)(h:s.isU k=false):Vi s (k+1)=Vi s k++ [k]:=by unfold Vi;rw[Wp,Vs];simp[h]
theorem ZhX (s:ZJ)(k:Nat)(h:s.isU k=true):Vi s (k+1)=Vi s k:=by unfold Vi;rw[Wp,Vs];simp[h]
theorem ZiT (s:ZJ)(k:Nat):(Vi s k).length≤k:=by unfold Vi;have:=Wx (fun i=> !s.isU i) (List.range k);rwa [WZ]at this
structure PE (base:Nat) (w0 w:World) (gp go gu gt gres:Nat) (A:Option Addr) (n c N:Nat) (s:ZJ) (v1 v2 v3:Value) (l:List Nat):Prop where
 pl:PL w gp go gu A n c N s
 out:Row w gt 285 [v1,v2,v3]
 res:Row w gres 285 [.slice none 0 0,.slice none 0 0,.slice none 0 0]
 st:w.ownsRow base 354 2 v1 s.steps.length (stC s.steps)
 de:w.ownsRow base 3 1 v2 s.dead.length (s.dead.map iv)
 le:w.ownsRow base 3 1 v3 l.length (l.map ZM)
 dj:∀b,v2.ownBlock=some b→v3.ownBlock≠some b
 be:Below base w0 w
 ge:base≤gt∧base≤gres∧gres≠gt
 sz:base≤w.heap.size
theorem PE.below {base:Nat}{w0 w w':U1}{gp go gu gt gres:Nat}{A:X_}{n c N:Nat}{s:ZJ}{v1 v2 b:U2}{l:List Nat}(h:PE base w0 w gp go gu gt gres A n c N s v1 v2 b l)(a:Below w.heap.size w w'):PE base w0 w' gp go gu gt gres A n c N s v1 v2 b l:=
 ⟨h.pl.below a,h.out.below a h.out.lt,h.res.below a h.res.lt,h.st.kept (ZB a none) (by cases v1.ownBlock <;> simp),h.de.kept (ZB a none) (by cases v2.ownBlock <;> simp),h.le.kept (ZB a none) (by cases b.ownBlock <;> simp),h.dj,h.be.trans (a.mono h.sz),h.ge,Zj h.sz a.size⟩
theorem PE.app {base:Nat}{w0 w w':U1}{gp go gu gt gres:Nat}{A:X_}{n c N:Nat}{s:ZJ}{v1 v2 i a:U2}{l:List Nat}{x:Nat}(h:PE base w0 w gp go gu gt gres A n c N s v1 v2 i l)
  (r:w'.ownsRow base 3 1 a (l.length+1) (l.map ZM++ [ZM x])) (d:w.grownBy w' i.ownBlock) (f:a.ownBlock=i.ownBlock∨a.ownBlock=some w.heap.size):
  Row w' gt 285 [v1,v2,i]∧PE base w0 (w'.setCell ⟨gt,2,none⟩ a) gp go gu gt gres A n c N s v1 v2 a (l++ [x]):=by
 have m:(3:TypeId)≠285:=Z5;have g:=Wv h.out h.le d m;have j:=h.pl.own1 h.le d Z5 Z5;have t:=Wv h.res h.le d m;have v:=h.st.kept d (YF h.st h.le Z5);have y:=h.de.kept d (by
  cases hv:v2.ownBlock with
  |none=>exact .inl rfl
  |some b=>exact .inr fun e=>h.dj b hv e.symm)
 have z:=Y9 h.be h.le d (Z4 _) h.sz;have B:=Va h.out h.pl.row Z5;have C:=Va h.out h.pl.o Z5;have D:=Va h.out h.pl.u Z5;have k:=h.ge;refine⟨g,⟨⟨j.row.far (p:=⟨gt,2,none⟩) B.symm _,j.o.far (p:=⟨gt,2,none⟩) C.symm _,j.u.far (p:=⟨gt,2,none⟩) D.symm _⟩,g.set 2 a,t.far (p:=⟨gt,2,none⟩) k.2.2 _,v.farC g Z5 2 _,y.farC g Z5 2 _,?_,fun b q e=>?_,z.setCell (p:=⟨gt,2,none⟩) k.1 _,k,?_⟩⟩;·have:=r.farC g Z5 2 a;simpa using this
 ·rcases f with f|f;·rw[f]at e;exact h.dj b q e
  ·rw[f]at e;injection e with e;have:=(ZC h.de b q).2;omega
 ·have:=d.size;have:=h.sz;simp only[World.setCell];simp;omega
def Z3L (base:Nat) (w0:U1) (gres B:Nat) (A:X_) (n c N:Nat) (vs:Z_) (L:List (W_)) (a:Act) (w:U1):Prop:=
 ∃(gp go gu gt:Nat) (s:ZJ) (v1 v2:U2),PJ base w0 w gp go gu gt gres B A n c N vs L s v1 v2∧Hid (Z18 N L s)∧Hid (s.opn.countP id+s.steps.length+s.dead.length=N)∧
 ∃f:Nat→U2,a={ tmps:= #[.int .i64 (N:Int),.slice A n c,f 2,f 3,.pointer (some ⟨gres,0,none⟩),.bool false,.pointer (some ⟨gp,0,none⟩),f 7,.pointer (some ⟨gt,0,none⟩),f 9,f 10,f 11,f 12,f 13,f 14,f 15,f 16,f 17,f 18,f 19,f 20,f 21,f 22,f 23,f 24,f 25,f 26,f 27,f 28,f 29,f 30,f 31,f 32,f 33,f 34,f 35,f 36,f 37,f 38,f 39,f 40,f 41,f 42,f 43,f 44,f 45,f 46,f 47,f 48,f 49,f 50,f 51,f 52,f 53,f 54,f 55,f 56,f 57,f 58,f 59,f 60,f 61,f 62,f 63,f 64,f 65,f 66,f 67,f 68,f 69,f 70,f 71,f 72,f 73,f 74,f 75,f 76,f 77,f 78,f 79,f 80,f 81,f 82,f 83,f 84,f 85,f 86,f 87,f 88,f 89,f 90,f 91,f 92,f 93,f 94,f 95,f 96,f 97,f 98,f 99,f 100,f 101,f 102,f 103,f 104,f 105,f 106,f 107],defers:= []}
theorem Z3L.mk_ {base:Nat}{w0:U1}{gres B:Nat}{A:X_}{n c N:Nat}{vs:Z_}{L:List (W_)}{w:U1}{gp go gu gt:Nat}{s:ZJ}{v1 v2:U2}(bc:PJ base w0 w gp go gu gt gres B A n c N vs L s v1 v2)(bd:Hid (Z18 N L s))(be:Hid (s.opn.countP id+s.steps.length+s.dead.length=N)){a b d e f g h j k l m o p q r t v x y z C D E F G H I J M O P Q R S T U V W a0 a1 a2 a3 a4 a5 a6 a7 a8 a9 aa ab ac ad ae af ag ah ai aj ak al am an ao ap aq ar av aw ax ay az aB aC aD aE aF aG aH aI aJ aK aL aM aO aP aQ aR aT aU aV aW b0 b1 b2 b3 b4 b5 b6 b7 b9 ba bb:U2}:Z3L base w0 gres B A n c N vs L { tmps:= #[.int .i64 (N:Int),.slice A n c,a,b,.pointer (some ⟨gres,0,none⟩),.bool false,.pointer (some ⟨gp,0,none⟩),d,.pointer (some ⟨gt,0,none⟩),e,f,g,h,j,k,l,m,o,p,q,r,t,v,x,y,z,C,D,E,F,G,H,I,J,M,O,P,Q,R,S,T,U,V,W,a0,a1,a2,a3,a4,a5,a6,a7,a8,a9,aa,ab,ac,ad,ae,af,ag,ah,ai,aj,ak,al,am,an,ao,ap,aq,ar,av,aw,ax,ay,az,aB,aC,aD,aE,aF,aG,aH,aI,aJ,aK,aL,aM,aO,aP,aQ,aR,aT,aU,aV,aW,b0,b1,b2,b3,b4,b5,b6,b7,b9,ba,bb],defers:= []} w:=
 ⟨gp,go,gu,gt,s,v1,v2,bc,bd,be,fun i=>([undef,undef,a,b,undef,undef,undef,d,undef,e,f,g,h,j,k,l,m,o,p,q,r,t,v,x,y,z,C,D,E,F,G,H,I,J,M,O,P,Q,R,S,T,U,V,W,a0,a1,a2,a3,a4,a5,a6,a7,a8,a9,aa,ab,ac,ad,ae,af,ag,ah,ai,aj,ak,al,am,an,ao,ap,aq,ar,av,aw,ax,ay,az,aB,aC,aD,aE,aF,aG,aH,aI,aJ,aK,aL,aM,aO,aP,aQ,aR,aT,aU,aV,aW,b0,b1,b2,b3,b4,b5,b6,b7,b9,ba,bb]:Z_).getD i undef,rfl⟩
def Z5I (base:Nat) (w0:U1) (gres B:Nat) (A:X_) (n c N:Nat) (vs:Z_) (L:List (W_)) (a:Act) (w:U1):Prop:=
 ∃(gp go gu gt:Nat) (s:ZJ) (v1 v2:U2),PJ base w0 w gp go gu gt gres B A n c N vs L s v1 v2∧Hid (Z18 N L s)∧Hid (s.opn.countP id+s.steps.length+s.dead.length=N∧∀c:Int,0≤c→c<(N:Int)→s.isO c=false)∧
 ∃f:Nat→U2,a={ tmps:= #[.int .i64 (N:Int),.slice A n c,f 2,f 3,.pointer (some ⟨gres,0,none⟩),.bool false,.pointer (some ⟨gp,0,none⟩),f 7,.pointer (some ⟨gt,0,none⟩),f 9,f 10,f 11,f 12,f 13,f 14,f 15,f 16,f 17,f 18,f 19,f 20,f 21,f 22,f 23,f 24,f 25,f 26,f 27,f 28,f 29,f 30,f 31,f 32,f 33,f 34,f 35,f 36,f 37,f 38,f 39,f 40,f 41,f 42,f 43,f 44,f 45,f 46,f 47,f 48,f 49,f 50,f 51,f 52,f 53,f 54,f 55,f 56,f 57,f 58,f 59,f 60,f 61,f 62,f 63,f 64,f 65,f 66,f 67,f 68,f 69,f 70,f 71,f 72,f 73,f 74,f 75,f 76,f 77,f 78,f 79,f 80,f 81,f 82,f 83,f 84,f 85,f 86,f 87,f 88,f 89,f 90,f 91,f 92,f 93,f 94,f 95,f 96,f 97,f 98,f 99,f 100,f 101,f 102,f 103,f 104,f 105,f 106,f 107],defers:= []}
theorem Z5I.mk_ {base:Nat}{w0:U1}{gres B:Nat}{A:X_}{n c N:Nat}{vs:Z_}{L:List (W_)}{w:U1}{gp go gu gt:Nat}{s:ZJ}{v1 v2:U2}(bc:PJ base w0 w gp go gu gt gres B A n c N vs L s v1 v2)(bd:Hid (Z18 N L s))(be:Hid (s.opn.countP id+s.steps.length+s.dead.length=N∧∀c:Int,0≤c→c<(N:Int)→s.isO c=false)){a b d e f g h j k l m o p q r t v x y z C D E F G H I J M O P Q R S T U V W a0 a1 a2 a3 a4 a5 a6 a7 a8 a9 aa ab ac ad ae af ag ah ai aj ak al am an ao ap aq ar av aw ax ay az aB aC aD aE aF aG aH aI aJ aK aL aM aO aP aQ aR aT aU aV aW b0 b1 b2 b3 b4 b5 b6 b7 b9 ba bb:U2}:Z5I base w0 gres B A n c N vs L { tmps:= #[.int .i64 (N:Int),.slice A n c,a,b,.pointer (some ⟨gres,0,none⟩),.bool false,.pointer (some ⟨gp,0,none⟩),d,.pointer (some ⟨gt,0,none⟩),e,f,g,h,j,k,l,m,o,p,q,r,t,v,x,y,z,C,D,E,F,G,H,I,J,M,O,P,Q,R,S,T,U,V,W,a0,a1,a2,a3,a4,a5,a6,a7,a8,a9,aa,ab,ac,ad,ae,af,ag,ah,ai,aj,ak,al,am,an,ao,ap,aq,ar,av,aw,ax,ay,az,aB,aC,aD,aE,aF,aG,aH,aI,aJ,aK,aL,aM,aO,aP,aQ,aR,aT,aU,aV,aW,b0,b1,b2,b3,b4,b5,b6,b7,b9,ba,bb],defers:= []} w:=
 ⟨gp,go,gu,gt,s,v1,v2,bc,bd,be,fun i=>([undef,undef,a,b,undef,undef,undef,d,undef,e,f,g,h,j,k,l,m,o,p,q,r,t,v,x,y,z,C,D,E,F,G,H,I,J,M,O,P,Q,R,S,T,U,V,W,a0,a1,a2,a3,a4,a5,a6,a7,a8,a9,aa,ab,ac,ad,ae,af,ag,ah,ai,aj,ak,al,am,an,ao,ap,aq,ar,av,aw,ax,ay,az,aB,aC,aD,aE,aF,aG,aH,aI,aJ,aK,aL,aM,aO,aP,aQ,aR,aT,aU,aV,aW,b0,b1,b2,b3,b4,b5,b6,b7,b9,ba,bb]:Z_).getD i undef,rfl⟩
theorem ZgR (N B:Nat)(A:X_)(n c:Nat)(vs:Z_)(L:List (W_))(w:U1)(hr:RIs w B A n vs L)(hB:B≤w.heap.size)(hn:n≤100000)(hN:N≤64)(hL:Z2V N L)(aK:∀r∈L,r.length≤1048576):
  Calls prog 276 #[.int .i64 (N:Int),.slice A n c] w fun e w'=>∃(s:ZJ) (v1 v2 v3:U2),e=.returned (.tuple #[.agg #[v1,v2,v3],.bool true])∧Z18 N L s∧(∀c:Int,0≤c→c<(N:Int)→s.isO c=false)∧
   w'.ownsRow w.heap.size 354 2 v1 s.steps.length (stC s.steps)∧w'.ownsRow w.heap.size 3 1 v2 s.dead.length (s.dead.map iv)∧
   w'.ownsRow w.heap.size 3 1 v3 ((List.range n).filter fun i=> !s.isU i).length (((List.range n).filter fun i=> !s.isU i).map ZM)∧(∀b,v2.ownBlock=some b→v3.ownBlock≠some b)∧s.steps.length+s.dead.length≤N∧Below w.heap.size w w':=by
 obtain⟨ib,ag,ah,ai,aj⟩:=info_parts Z9C;obtain⟨is,aL,aM,aO,bt⟩:=info_parts Zhe;obtain⟨ii,a7,ak,al,aP⟩:=info_parts VC;obtain⟨base,am⟩:∃g,w.heap.size=g:=⟨_,rfl⟩;rw[am]at hB ⊢;have ay:Below base w (w.alloc (.cells #[.slice none 0 0,.slice none 0 0,.slice none 0 0] 285)):=(Z8 _ _).alloc Y _;have aQ:Row (w.alloc (.cells #[.slice none 0 0,.slice none 0 0,.slice none 0 0] 285)) base 285 [.slice none 0 0,.slice none 0 0,.slice none 0 0]:=by rw[←am];exact Row.new _ _ _
 have aR:=hr.below (ay.mono hB);have HL:=Z hL;have aT:=Z aK;have a1:=Z hr.len;have bv:=Z am;have HR:=Z aR;have az:=Z aQ;have aU:=Z ay;clear hr hL aK ay aR aQ am;go_enter func276,ntmps276;go_wp2_with fail;rw[bv.out];generalize w.alloc (.cells #[.slice none 0 0,.slice none 0 0,.slice none 0 0] 285)=w1 at HR az aU ⊢;have bw:=az.out.lt;refine Z4B 1 0 (Z3L base w base B A n c N vs L) (Z5I base w base B A n c N vs L) Z7w rfl rfl ?_ ?_ ?_
 ·intro aV;have bx:=Z aV;clear aV;go_wp2_with fail;refine(Zde N B A n c vs L _ HR.out Y hN HL.out).mono ?_;rintro e w2 ⟨rfl,rfl⟩;go_upto_region 3 with fail;go_cut [6] (fun s6 wx=>∃gp go gu:Nat,s6=.pointer (some ⟨gp,0,none⟩)∧PL wx gp go gu A n c N ⟨List.replicate N false,List.replicate n false, [], []⟩∧w1.heap.size≤gp∧w1.heap.size≤go∧w1.heap.size≤gu∧go≠gu∧Below w1.heap.size w1 wx)
  ·refine oS [] (fun w'=>Below w1.heap.size w1 w') [0,1,3,4] (bq_ (Z8 _ _) 1) fun hS=>?_;(iterate 4 refine oV ?_);refine oT 2 5 [5,6,7,8] [2,6,7,8] (fun K hK=>?_) fun K hK=>?_;·skip;(refine Xw (.tmp 20) (.tmp 20) 288 (by rfl) 4 ib (.bool false) 1 underlying288 ag ah ai aj rfl .i64 .i64 (N:Int) (N:Int) N N (by rfl) (by rfl) rfl rfl (Z4 _) Y Y ?_);intro wo ro bo so;refine oK hK (hS.trans (bo.mono hS.size)) fun hS=>?_;refine oG fun K hK=>?_;(refine Xw (.tmp 23) (.tmp 23) 288 (by rfl) 4 ib (.bool false) 1 underlying288 ag ah ai aj rfl .i64 .i64 (n:Int) (n:Int) n n (by rfl) (by rfl) rfl rfl (Z4 _) Y Y ?_);intro wu ru bu su;refine oK hK (hS.trans (bu.mono hS.size)) fun hS=>?_;refine oV ?_;refine oG fun K hK=>?_;go_simp;refine oK hK (hS.alloc hS.size _) fun hS=>?_;refine oV ?_;refine oD ?_;have e1:wo.heap.size=w1.heap.size+1:=so;have e2:wu.heap.size=w1.heap.size+1+1:=(by rw[su,e1]);have rp:=Row.new wu 408 #[.slice A n c,.slice (some ⟨w1.heap.size,0,none⟩) N N,.slice (some ⟨(w1.heap.size+1),0,none⟩) n n];rw[e2]at rp;rw[e1]at ru;go_wp2;go_meet;exact⟨w1.heap.size+1+1,w1.heap.size,(w1.heap.size+1),rfl,⟨rp,((ro.below bu ro.lt).alloc _).to (by simp[ZJ.new]),(ru.alloc _).to (by simp[ZJ.new])⟩,Y,Y,Y,Y,hS⟩
   ·skip;(refine Xw (.tmp 23) (.tmp 23) 288 (by rfl) 4 ib (.bool false) 1 underlying288 ag ah ai aj rfl .i64 .i64 (n:Int) (n:Int) n n (by rfl) (by rfl) rfl rfl (Z4 _) Y Y ?_);intro wu ru bu su;refine oK hK (hS.trans (bu.mono hS.size)) fun hS=>?_;refine oG fun K hK=>?_;(refine Xw (.tmp 20) (.tmp 20) 288 (by rfl) 4 ib (.bool false) 1 underlying288 ag ah ai aj rfl .i64 .i64 (N:Int) (N:Int) N N (by rfl) (by rfl) rfl rfl (Z4 _) Y Y ?_);intro wo ro bo so;refine oK hK (hS.trans (bo.mono hS.size)) fun hS=>?_;refine oV ?_;refine oG fun K hK=>?_;go_simp;refine oK hK (hS.alloc hS.size _) fun hS=>?_;refine oV ?_;refine oD ?_;have e1:wu.heap.size=w1.heap.size+1:=su;have e2:wo.heap.size=w1.heap.size+1+1:=(by rw[so,e1]);have rp:=Row.new wo 408 #[.slice A n c,.slice (some ⟨(w1.heap.size+1),0,none⟩) N N,.slice (some ⟨w1.heap.size,0,none⟩) n n];rw[e2]at rp;rw[e1]at ro;go_wp2;go_meet;exact⟨w1.heap.size+1+1,(w1.heap.size+1),w1.heap.size,rfl,⟨rp,(ro.alloc _).to (by simp[ZJ.new]),((ru.below bo ru.lt).alloc _).to (by simp[ZJ.new])⟩,Y,Y,Y,Y,hS⟩
  case rest=>
  obtain⟨gp,go,gu,rfl,H,c4,bz,c5,aW,b0⟩:=hcut;generalize wc=C at*;have p1:=Z9 H.row 1;have bB:=Z H;have b1:=Z b0;have c6:base≤w1.heap.size:=Y;have bC:gp≠go:=fun e=>by have h1:=H.row;have I:=H.o;rw[e]at h1;unfold Row at h1 I;rw[h1]at I;injection I with I;injection I with _ I _;exact absurd I Z5
  clear H b0;go_wp2;go_loopw [32] (fun i wr=>∃(j:Nat),j≤N∧i=.int .i64 (j:Int)∧Hid (PL wr gp go gu A n c N ⟨List.replicate j true++List.replicate (N-j) false,List.replicate n false, [], []⟩)∧Hid (Only (fun q=>q=go) C wr)) (fun i _=>N-(intOf i).toNat)
  ·exact⟨0,Y,rfl,Z (by rw[Nat.sub_zero];exact bB.out),Z (Only.refl _ _)⟩
  ·obtain⟨j,h,rfl,HP,HO⟩:=hrel;have p1:=Z9 HP.out.row 1;by_cases b3:j<N
   ·have bD:(j:Int)<(N:Int):=Y;have fo:=HP.out.o.frozen j;obtain⟨u0,co⟩:∃u,wr.cell? ⟨go,j,none⟩=some u:=⟨_,(HP.out.o.cell j).trans (Z7 Zx)⟩;have an:=HP.out.o.set j (.bool true);have b4:((List.replicate j true++List.replicate (N-j) false).map Value.bool).set j (.bool true)=(List.replicate (j+1) true++List.replicate (N-(j+1)) false).map Value.bool:=(by rw[←XZ];congr 1;rw[Wn _ _ Ze,Z0w,W9,show N-j=(N-(j+1))+1 from Y,Z3H,YL,List.replicate_succ',YH];rfl);dsimp only at an;rw[b4]at an;have bE:Hid (PL (wr.setCell ⟨go,j,none⟩ (.bool true)) gp go gu A n c N ⟨List.replicate (j+1) true++List.replicate (N-(j+1)) false,List.replicate n false, [], []⟩):=Z ⟨Row.far HP.out.row bC _,an,Row.far HP.out.u (fun e=>aW e.symm) _⟩;have bF:=Z (Only.set (F:=fun q=>q=go) HO.out rfl j (.bool true));clear an b4;go_wp2;go_roundw;·exact⟨j+1,Y,Zg,bE,bF⟩
    ·exact Zh
   ·have bG:j=N:=Y;subst bG;have H:=HP.out;rw[W9,List.replicate_zero,Wo]at H;have bH:Hid (PL wr gp go gu A n c j (ZJ.new j n)):=Z H;clear H;go_wp2_with fail;refine wp_label ?_;simp only[Exit.then];rename_i K0 bI;refine bI _ _ (bx.out _ _ ?_);have b2:Below w1.heap.size w1 wr:=b1.out.trans (HO.out.below (fun q e=>by subst e;exact bz) b1.out.size);have a2:Below wr.heap.size wr (wr.alloc (.cells #[.slice none 0 0,.slice none 0 0,.slice none 0 0] 285)):=(Z8 _ _).alloc (Z4 _) _;have c9:=b2.size;have a0:PJ base w (wr.alloc (.cells #[.slice none 0 0,.slice none 0 0,.slice none 0 0] 285)) gp go gu wr.heap.size base B A n c j vs L (ZJ.new j n) (.slice none 0 0) (.slice none 0 0):=(by refine⟨bH.out.below a2,Row.new _ _ _,(az.out.below b2 bw).below a2 Y,Yi _ _ _ _,Yi _ _ _ _,(HR.out.below (b2.mono Y)).below (a2.mono Y),(aU.out.trans (b2.mono Y)).trans (a2.mono Y),⟨Y,Y,Y,Y,Y,hB,Y,aW⟩,Zx⟩);exact Z3L.mk_ a0 (Z (by have:=Zg0 j L;rw[a1.out]at this;exact this)) (Z (by simp[ZJ.new,List.countP_replicate]))
 ·rintro a wo ⟨gp,go,gu,gt,s,v1,v2,h,P,a8,f,rfl⟩;have HJ:=Z h;have ao:=h.ge;have bJ:=h.ne;have ap:=P.out.ol;have aq:s.used.length=n:=by rw[P.out.ul];exact a1.out
  have ar:=a8.out;have p1:=Z9 h.pl.row 1;obtain⟨b,hb⟩:=Zb (s.opn.any id);have aB:=h.pl.o.sl (B:=go+1) (m:=N) (Z1L go) (by simp[ap]);rw[ZP (by simp[ap])]at aB;have bK:=Z aB;have HB:=Z hb;have b5:=Z6R (a:={ tmps:= #[.int .i64 (N:Int),.slice A n c,f 2,f 3,.pointer (some ⟨base,0,none⟩),.bool false,.pointer (some ⟨gp,0,none⟩),f 7,.pointer (some ⟨gt,0,none⟩),f 9,f 10,f 11,f 12,f 13,f 14,f 15,f 16,f 17,f 18,f 19,f 20,f 21,f 22,f 23,f 24,f 25,f 26,f 27,f 28,f 29,f 30,f 31,f 32,f 33,f 34,f 35,f 36,f 37,f 38,f 39,f 40,f 41,f 42,f 43,f 44,f 45,f 46,f 47,f 48,f 49,f 50,f 51,f 52,f 53,f 54,f 55,f 56,f 57,f 58,f 59,f 60,f 61,f 62,f 63,f 64,f 65,f 66,f 67,f 68,f 69,f 70,f 71,f 72,f 73,f 74,f 75,f 76,f 77,f 78,f 79,f 80,f 81,f 82,f 83,f 84,f 85,f 86,f 87,f 88,f 89,f 90,f 91,f 92,f 93,f 94,f 95,f 96,f 97,f 98,f 99,f 100,f 101,f 102,f 103,f 104,f 105,f 106,f 107],defers:= []}) h.pl rfl;have b6:=Z b5;clear h aB hb b5;go_wp2_with fail;refine(ZgV (go+1) _ N N s.opn b _ bK.out Y HB.out).mono ?_;rintro e w' ⟨rfl,rfl⟩;cases b with
  |false=>
   go_wp2_with fail;refine wp_goto ?_;refine .inr ⟨rfl,Z5I.mk_ HJ.out P (Z ⟨ar,fun x h0 h1=>?_⟩)⟩;have I:=List.any_eq_false.1 HB.out;cases h3:s.isO x with
   |false=>rfl
   |true=>exact absurd (show id (s.opn.getD x.toNat false)=true from h3) (I _ (Z0h Y))
  |true=>
   go_wp2_with fail;refine(ZgL gp go gu A n c N s B vs L _ HJ.out.pl hN HJ.out.rows (Zc HJ.out.sz) Y HL.out aT.out ap aq).mono ?_;rintro e C ⟨bL,b7⟩;have aC:=Z (HJ.out.below b7);clear b7 p1;rcases bL with ⟨i,z,rfl,hi,hz,hu,ho⟩|⟨rfl,b9⟩
   ·have a4:Below C.heap.size C (C.alloc (.cells #[.int .i64 (i:Int),.int .i64 (z:Int)] 354)):=(Z8 _ _).alloc (Z4 _) _;have D:=Z (aC.out.below a4);have aD:=Row.new C 354 #[.int .i64 (i:Int),.int .i64 (z:Int)];obtain⟨g9,a3⟩:∃g,C.heap.size=g:=⟨_,rfl⟩;rw[a3]at aD;have a5:=Z aD;have av:=Z a3;have HO:=Z ho;have HU:=Z hu;clear a4 aD a3 ho hu;go_upto_region 12 with fail;rw[av.out];generalize C.alloc (.cells #[.int .i64 (i:Int),.int .i64 (z:Int)] 354)=w4 at D a5 ⊢;go_upto_region 13 with fail;have aE:=D.out;obtain⟨Q,R,aF,a9,ba,-⟩:=Y8 aE.st;subst aF;have q0:=Z9 aE.out 0;have r0:=Z9 a5.out 0;have r1:=Z9 a5.out 1;obtain⟨k,S⟩:=Zb s.steps.length;have t:=Z S;rw[S]at q0 a9 ar;have fo:=D.out.pl.o.frozen z;have fu:=D.out.pl.u.frozen i;clear aE S;go_wp2_with (first
     | ((with_reducible refine Xk 57 ?_);refine wpList_plain rfl (fun K hK=>?_);refine Z2y 283 354 (.tmp 56) rfl _ _ rfl is _ _ underlying283 aL aM aO ?_;rintro w6 g6 J E M aa;refine hK _ _ ?_;clear hK K;have ab:=Z E;have G:=Z (D.out.below (by rw[J];exact M));have bM:=Z (a5.out.below (by rw[J];exact M) a5.out.lt);have q0:=Z9 G.out.out 0;have f0:=G.out.out.frozen 0;have ac:=E.lt;clear E M J aa)
     | ((with_reducible refine Xk 58 ?_);go_must (refine Y5 rfl (.tmp 55) (.tmp 57) 283 rfl base 354 is _ 2 16 underlying283 aL aM aO bt rfl Y (.slice Q k R) k (stC s.steps) rfl (by have:=G.out.st;rw[t.out]at this;exact this) w6.heap.size (some ⟨g6,0,none⟩) 1 1 [.int .i64 (i:Int),.int .i64 (z:Int)] rfl (Z2I ab.out rfl ac) (by simp[Value.oneCell']) (k+1) rfl _ rfl Y Y G.out.sz ?_);intro A7 c7 w7 T O _;have y:=G.out.st1 (x:=(i,(z:Int))) (by rw[t.out];exact T) (by rw[t.out];exact O);have l:=Z y.2;go_must (have ad:=Z ((bM.out.grown O (fun e9=>by have bb:=aC.out.st;rw[t.out]at bb;have h8:=(ZC bb g9 e9.symm).2;have:=av.out;omega)).far (p:=⟨gt,0,none⟩) (Va a5.out D.out.out Z5) (.slice A7 (k+1) c7)));have q7:=y.1.cell 0;have f7:=y.1.frozen 0;clear T O y q0 f0))
    clear q7 f7;generalize w7.setCell ⟨gt,0,none⟩ (.slice A7 (k+1) c7)=w8 at l ad ⊢;have p1:=Z9 l.out.pl.row 1;have p2:=Z9 l.out.pl.row 2;have r0:=Z9 ad.out 0;have r1:=Z9 ad.out 1;have fo:=l.out.pl.o.frozen z;have fu:=l.out.pl.u.frozen i;obtain⟨u0,co⟩:∃u,w8.cell? ⟨go,z,none⟩=some u:=⟨_,(l.out.pl.o.cell z).trans (Z7 Zx)⟩;obtain⟨u1,cu⟩:∃u,w8.cell? ⟨gu,i,none⟩=some u:=⟨_,(l.out.pl.u.cell i).trans (Z7 Zx)⟩;have a7:(i:Int)<(n:Int):=Y;have bc:(z:Int)<(N:Int):=Y;have ae:=l.out.use i;have bd:=ad.out.far (p:=⟨gu,i,none⟩) (Va ad.out l.out.pl.u Z5) (.bool true);obtain⟨w9,a6⟩:=Zb ((w8.setCell ⟨gu,i,none⟩ (.bool true)).drew);have p3:w9.cell? ⟨gp,1,none⟩=some (.slice (some ⟨go,0,none⟩) N N):=(by rw[←a6];have:=ae.pl.row.cell 1;exact this);have r3:w9.cell? ⟨g9,1,none⟩=some (.int .i64 (z:Int)):=(by rw[←a6];have:=bd.cell 1;exact this);have bO:w9.frozen? ⟨go,z,none⟩=false:=(by rw[←a6];exact ae.pl.o.frozen z);obtain⟨u2,bP⟩:∃u,w9.cell? ⟨go,z,none⟩=some u:=⟨_,by rw[←a6];exact(ae.pl.o.cell z).trans (Z7 Zx)⟩;rw[←a6]at p3 r3 bO bP;clear a6 bd;have aG:=Z (ae.close z);clear ae;go_region
    go_wp2_with fail;refine wp_goto ?_;have aw:s.isO (z:Int)=true:=(by have:(z:Int)∈s.os (L.getD i []):=(by rw[HO.out];simp);unfold ZJ.os at this;exact(YW.1 this).2);have bQ:=Z6B s.opn z Y aw;have a0:PJ base w (((w8.setCell ⟨gu,i,none⟩ (.bool true)).setCell ⟨go,z,none⟩ (.bool false)).drew) gp go gu gt base B A n c N vs L (s.tell i (z:Int)) (.slice A7 (k+1) c7) v2:=aG.out.below (bq_ (Z8 _ _) 1);refine .inl ⟨rfl,Z3L.mk_ a0 (Z (ZdU P.out (fun r hr=>(HL.out r hr).1) (by rw[a1.out];exact hi) HO.out)) (Z ?_),?_⟩;·show(s.opn.set z false).countP id+(s.steps++ [(i,(z:Int))]).length+s.dead.length=N;rw[Zw,t.out];simp only[Z05];omega
    ·rw[b6.out,Z6R a0.pl rfl];show(s.opn.set z false).countP id<_;omega
   ·have bR:=Z b9;clear b9;have bf:s.opn.any id=true:=HB.out;obtain⟨x,hx,bg⟩:=Z1u.1 bf;obtain⟨t0,bh,bi⟩:=ZZ hx;have bT:∃q,q<N∧s.opn.getD q false=true:=⟨t0,Y,by rw[Z6,Z7 bh,bi];exact bg⟩;clear hx bg bh bi bf;obtain⟨g9,a3⟩:∃g,C.heap.size=g:=⟨_,rfl⟩;have av:=Z a3;have a4:Below C.heap.size C (C.alloc (.cells #[.int .i64 0,.int .i64 0] 354)):=(Z8 _ _).alloc (Z4 _) _;have D:=Z (aC.out.below a4);clear a4 a3;go_upto_region 12 with fail;rw[av.out];generalize C.alloc (.cells #[.int .i64 0,.int .i64 0] 354)=w4 at D ⊢;go_upto_region 15 with fail;go_wp2_with fail;refine(Zg5 gp go gu A n c N s B vs L _ D.out.pl hN D.out.rows (Zc D.out.sz) Y HL.out aT.out ap aq bT).mono ?_;rintro e w5 ⟨⟨z,rfl,ca,aw⟩,bj⟩;have bk:=Z (D.out.below bj);have bl:=Z aw;clear bj aw;have ax:=bk.out;obtain⟨U,V,aH,a9,ba,-⟩:=Y8 ax.de;subst aH;have q1:=Z9 ax.out 1;have f1:=ax.out.frozen 1;obtain⟨k,S⟩:=Zb s.dead.length;have t:=Z S;rw[S]at q1 a9 ar;clear ax S;go_upto_region 17 with (first
     | ((with_reducible refine Xk 79 ?_);refine wpList_plain rfl (fun K hK=>?_);refine WJ 22 3 (.tmp 78) rfl (.int .i64 (z:Int)) rfl rfl ii _ underlying22 a7 ak al rfl ?_;rintro w6 g6 J E M aa;refine hK _ _ ?_;clear hK K;have ab:=Z E;have G:=Z (bk.out.below (by rw[J];exact M));have q1:=Z9 G.out.out 1;have f1:=G.out.out.frozen 1;have ac:=E.lt;clear E M J aa)
     | ((with_reducible refine Xk 80 ?_);go_must (refine Y5 rfl (.tmp 77) (.tmp 79) 22 rfl base 3 ii _ 1 8 underlying22 a7 ak al aP rfl Y (.slice U k V) k (s.dead.map iv) rfl (by have:=G.out.de;rw[t.out]at this;exact this) w6.heap.size (some ⟨g6,0,none⟩) 1 1 [iv (z:Int)] rfl (ab.out.sl ac (Z4 _)) (by simp[Value.oneCell',iv]) (k+1) rfl _ rfl Y Y G.out.sz ?_);intro A7 c7 w7 T O _;have y:=G.out.de1 (x:=(z:Int)) (by rw[t.out];exact T) (by rw[t.out];exact O);have l:=Z y.2;have q7:=y.1.cell 1;have f7:=y.1.frozen 1;clear T O y q1 f1))
    clear q7 f7;generalize w7.setCell ⟨gt,1,none⟩ (.slice A7 (k+1) c7)=w8 at l ⊢;have p1:=Z9 l.out.pl.row 1;have fo:=l.out.pl.o.frozen z;obtain⟨u0,co⟩:∃u,w8.cell? ⟨go,z,none⟩=some u:=⟨_,(l.out.pl.o.cell z).trans (Z7 Zx)⟩;have bc:(z:Int)<(N:Int):=Y;have aG:=Z (l.out.close z);go_wp2_with fail;refine wp_goto ?_;have bQ:=Z6B s.opn z Y bl.out;have a0:PJ base w (w8.setCell ⟨go,z,none⟩ (.bool false)) gp go gu gt base B A n c N vs L (s.off (z:Int)) v1 (.slice A7 (k+1) c7):=aG.out;refine .inl ⟨rfl,Z3L.mk_ a0 (Z (Zhv P.out Y bc bl.out (fun i hi=>bR.out i (by rw[←a1.out];exact hi)) (fun r hr=>(HL.out r hr).1))) (Z ?_),?_⟩;·show(s.opn.set z false).countP id+s.steps.length+(s.dead++ [(z:Int)]).length=N;rw[Zw,t.out];simp only[Z05];omega
    ·rw[b6.out,Z6R a0.pl rfl];show(s.opn.set z false).countP id<_;omega
 ·rintro a wo ⟨gp,go,gu,gt,s,v1,v2,h,P,a8,f,rfl⟩;have HJ:=Z h;have ao:=h.ge;have bJ:=h.ne;have aq:s.used.length=n:=by rw[P.out.ul];exact a1.out
  have ar:=a8.out.1;have p2:=Z9 h.pl.row 2;have cb:=Z h;have bU:Hid (PE base w wo gp go gu gt base A n c N s v1 v2 (.slice none 0 0) (Vi s 0)):=Z ⟨h.pl,h.out,h.res,h.st,h.de,Yi _ _ _ _,(fun b _ e=>by cases e),h.be,⟨ao.2.2.2.1,ao.2.2.2.2.1,ao.2.2.2.2.2.2.1⟩,h.sz⟩;clear h;go_wp2;go_loopw [12,13,93] (fun cc cd i wr=>∃(k:Nat) (v3:U2),k≤n∧i=.int .i64 (k:Int)∧Hid (PE base w wr gp go gu gt base A n c N s v1 v2 v3 (Vi s k))) (fun _ _ i _=>n-(intOf i).toNat)
  ·exact⟨0,_,Y,rfl,bU⟩
  ·obtain⟨k,v3,S,rfl,HE⟩:=hrel;by_cases b3:k<n
   ·have bD:(k:Int)<(n:Int):=Y;have cu:=HE.out.pl.u.cell k;rw[Z25 _ _ (by rw[aq];exact b3)]at cu;obtain⟨b,hb⟩:=Zb (s.used.getD k false);rw[hb]at cu;have HB:=Z hb;clear hb;cases b with
    |true=>
     go_wp2;go_roundw;·exact⟨k+1,v3,Y,Zg,by rw[ZhX s k HB.out];exact HE⟩
     ·exact Zh
    |false=>
     have d:=HE.out;obtain⟨W,c3,aI,a9,ba,-⟩:=Y8 d.le;subst aI;have q2:=Z9 d.out 2;obtain⟨j,h⟩:=Zb ((Vi s k).length);have bV:=ZiT s k;have t:=Z h;rw[h]at q2 a9 bV;clear d h;go_wp2_with (first
      | ((with_reducible refine Xk 103 ?_);refine wpList_plain rfl (fun K hK=>?_);refine WJ 22 3 (.tmp 102) rfl (.int .i64 (k:Int)) rfl rfl ii _ underlying22 a7 ak al rfl ?_;rintro w6 g6 J E M aa;refine hK _ _ ?_;clear hK K;have ab:=Z E;have af:=Z (HE.out.below (by rw[J];exact M));have q2:=Z9 af.out.out 2;have f2:=af.out.out.frozen 2;have ac:=E.lt;clear E M J aa)
      | ((with_reducible refine Xk 104 ?_);go_must (refine Y5 rfl (.tmp 101) (.tmp 103) 22 rfl base 3 ii _ 1 8 underlying22 a7 ak al aP rfl Y (.slice W j c3) j ((Vi s k).map ZM) rfl (by have:=af.out.le;rw[t.out]at this;exact this) w6.heap.size (some ⟨g6,0,none⟩) 1 1 [ZM k] rfl (ab.out.sl ac (Z4 _)) (by simp[Value.oneCell',ZM]) (j+1) rfl _ rfl Y Y af.out.sz ?_);intro A7 c7 w7 T O bm;go_must (have y:=af.out.app (x:=k) (by rw[t.out];exact T) (by rw[t.out];exact O) (by rw[t.out];exact bm));have l:=Z y.2;have q7:=y.1.cell 2;have f7:=y.1.frozen 2;clear T O bm y q2 f2))
     go_roundw;·exact⟨k+1,_,Y,Zg,by rw[Zh1 s k HB.out];exact l⟩
     ·exact Zh
   ·obtain rfl:k=n:=Y;have d:=HE.out;obtain⟨Q,R,aF,-,-,-⟩:=Y8 d.st;obtain⟨U,V,aH,-,-,-⟩:=Y8 d.de;obtain⟨W,c3,aI,-,-,-⟩:=Y8 d.le;subst aF aH aI;have q0:=Z9 d.out 0;have q1:=Z9 d.out 1;have q2:=Z9 d.out 2;have r0:=Z9 d.res 0;have r1:=Z9 d.res 1;have r2:=Z9 d.res 2;have f0:=d.res.frozen 0;have f1:=d.res.frozen 1;have f2:=d.res.frozen 2;have ce:=HE.out.ge.2.1;have cf:L.length=k:=a1.out;have bn:=((d.res.set 0 (.slice Q s.steps.length R)).set 1 (.slice U s.dead.length V)).set 2 (.slice W (Vi s k).length c3);have bp:=((d.st.farC d.res Z5 0 (.slice Q s.steps.length R)).farC (d.res.set 0 _) Z5 1 (.slice U s.dead.length V)).farC ((d.res.set 0 _).set 1 _) Z5 2 (.slice W (Vi s k).length c3);have bq:=((d.de.farC d.res Z5 0 (.slice Q s.steps.length R)).farC (d.res.set 0 _) Z5 1 (.slice U s.dead.length V)).farC ((d.res.set 0 _).set 1 _) Z5 2 (.slice W (Vi s k).length c3);have br:=((d.le.farC d.res Z5 0 (.slice Q s.steps.length R)).farC (d.res.set 0 _) Z5 1 (.slice U s.dead.length V)).farC ((d.res.set 0 _).set 1 _) Z5 2 (.slice W (Vi s k).length c3);have bs:=((d.be.setCell (p:=⟨base,0,none⟩) (Z4 _) (.slice Q s.steps.length R)).setCell (p:=⟨base,1,none⟩) (Z4 _) (.slice U s.dead.length V)).setCell (p:=⟨base,2,none⟩) (Z4 _) (.slice W (Vi s k).length c3);have aJ:=Z bn;have bW:=Z bp;have c0:=Z bq;have c1:=Z br;have c2:=Z bs;clear d bn bp bq br bs;go_wp2_with fail;simp only[Z06];have y0:=aJ.out.cell 0;have y1:=aJ.out.cell 1;have y2:=aJ.out.cell 2;simp only[YL,Xz,Xd,ZE]at y0 y1 y2;refine bodyPost_ret (v:= .tuple #[.agg #[.slice Q s.steps.length R,.slice U s.dead.length V,.slice W (Vi s k).length c3],.bool true]) ?_ rfl ⟨s,_,_,_,rfl,P.out,a8.out.2,bW.out,c0.out,c1.out,HE.out.dj,(Zc a8.out.1),c2.out⟩;simp[results,results276,go_sem,y0,y1,y2]
end
section
structure Yk (base:Nat) (w:World) (gw gm N:Nat) (vw vm:List Value) (s:WM):Prop where
 rw_:Row w gw 32 vw
 rm_:Row w gm 32 vm
 lvw:vw.length=N
 lvm:vm.length=N
 lw:s.W.length=N
 lm:s.Mo.length=N
 W:∀i,i<N→OB base w (vw.getD i undef) (s.W.getD i [])
 M:∀i,i<N→OB base w (vm.getD i undef) (s.Mo.getD i [])
 ne:gw≠gm
theorem Z2w {l:Z_}{i j:Nat}{v:U2}:(l.set i v).getD j undef=if i=j∧j<l.length then v else l.getD j undef:=X4 l i j v undef
section
variable {base:Nat} {w w':U1} {gw gm N:Nat} {vw vm:Z_} {s:WM}
theorem Yk.below (h:Yk base w gw gm N vw vm s)(a:Below w w w'):Yk base w' gw gm N vw vm s:=
 ⟨h.rw_.below a h.rw_.lt,h.rm_.below a h.rm_.lt,h.lvw,h.lvm,h.lw,h.lm,fun i b=>(h.W i b).below a,fun i b=>(h.M i b).below a,h.ne⟩
theorem Z1m {g i:Nat}{u v:U2}{t:TypeId}{a:Z_}{l:Y_}(h:OB base w v l)(b:Row w g t a)(c:5≠t):OB base (w.setCell (g,i) u) v l:=
 Zu h (Only.set (F:=fun k=>k=g) (Only.refl _ w) rfl i u) fun k d e=>X8 h b c k d e
theorem Yk.setW (h:Yk base w gw gm N vw vm s){c:Nat}{x:U2}{l:Y_}(d:OB base w x l):Yk base (w.setCell (gw,c) x) gw gm N (vw.set c x) vm ⟨s.W.set c l,s.Mo⟩:=by
 have e:(5:TypeId)≠32:=Z5;refine⟨h.rw_.set c x,Row.far h.rm_ (fun e=>h.ne e.symm) _,by rw[Ya];exact h.lvw,h.lvm,by rw[Ya];exact h.lw,h.lm,fun i b=>?_,fun i b=>Z1m (h.M i b) h.rw_ e,h.ne⟩;rw[Z2w,X4,h.lvw,h.lw];by_cases a:c=i∧i<N;·rw[if_pos a,if_pos a];exact Z1m d h.rw_ e
 ·rw[if_neg a,if_neg a];exact Z1m (h.W i b) h.rw_ e
theorem Yk.setM (h:Yk base w gw gm N vw vm s){c:Nat}{x:U2}{l:Y_}(d:OB base w x l):Yk base (w.setCell (gm,c) x) gw gm N vw (vm.set c x) ⟨s.W,s.Mo.set c l⟩:=by
 have e:(5:TypeId)≠32:=Z5;refine⟨Row.far h.rw_ (fun e=>h.ne e) _,h.rm_.set c x,h.lvw,by rw[Ya];exact h.lvm,h.lw,by rw[Ya];exact h.lm,fun i b=>Z1m (h.W i b) h.rm_ e,fun i b=>?_,h.ne⟩;rw[Z2w,X4,h.lvm,h.lm];by_cases a:c=i∧i<N;·rw[if_pos a,if_pos a];exact Z1m d h.rm_ e
 ·rw[if_neg a,if_neg a];exact Z1m (h.M i b) h.rm_ e
end
def Yx (gf:Nat) (p:Zf) (a rv v1 v2 v3 b c:U2):Z_:= [.pointer (some ⟨gf,0,none⟩),.int .i64 p.K,.int .i64 p.H,.int .i64 p.S,a,rv,v1,v2,v3,b,c]
section
variable {base:Nat} {w w':U1} {gf gv N cv:Nat} {vs:Z_} {V:Zl} {rv v1 v2 v3:U2} {ps:List (U2×U2)} {R:List Zt} {steps:List (Nat×Int)} {dead:W_} {left:List Nat}
end
end
theorem Yk.lt {base:Nat}{w:U1}{gw gm N:Nat}{vw vm:Z_}{s:WM}(h:Yk base w gw gm N vw vm s):(∀j,j<N→∀k,(vw.getD j undef).ownBlock=some k→base≤k∧k<w)∧∀j,j<N→∀k,(vm.getD j undef).ownBlock=some k→base≤k∧k<w:=
 ⟨fun j a k b=>ZC (h.W j a) k b,fun j a k b=>ZC (h.M j a) k b⟩
theorem Yk.rset {base:Nat}{w:U1}{gw gm N:Nat}{vw vm:Z_}{s:WM}(h:Yk base w gw gm N vw vm s){c r n cap i:Nat}{b:Byte}(o:c<N)(l:vw.getD c undef=.slice (some ⟨r,0,none⟩) n cap)(m:(s.W.getD c []).length=n)(q:i<n)
  (t:∀j,j<N→j≠c→∀k,(vw.getD j undef).ownBlock=some k→k≠r) (v:∀j,j<N→∀k,(vm.getD j undef).ownBlock=some k→k≠r):
  Yk base (w.setCell (r,i) (Za b)) gw gm N vw vm ⟨s.W.set c ((s.W.getD c []).set i b),s.Mo⟩:=by
 have a:=h.W c o;rw[l]at a;unfold OB at a;rw[m]at a;have x:gw≠r:=fun e=>X8 a h.rw_ Z5 r rfl e.symm;have y:gm≠r:=fun e=>X8 a h.rm_ Z5 r rfl e.symm;refine⟨h.rw_.far (p:=(r,i)) x _,h.rm_.far (p:=(r,i)) y _,h.lvw,h.lvm,by rw[Ya];exact h.lw,h.lm,fun j d=>?_,fun j d=>Zu (h.M j d) (Only.set (F:=fun k=>k=r) (Only.refl _ w) rfl i _) fun k g e=>v j d k g e,h.ne⟩;rw[X4,h.lw];by_cases f:c=j∧j<N;·rw[if_pos f];obtain⟨rfl,_⟩:=f;rw[l];have:=Z0f a q (Za b);unfold OB;rw[Ya,m,XZ];exact this
 ·rw[if_neg f];have z:j≠c:=fun e=>f ⟨e.symm,d⟩;exact Zu (h.W j d) (Only.set (F:=fun k=>k=r) (Only.refl _ w) rfl i _) fun k g e=>t j d z k g e
def Z2H (a b:Z_):Prop:=∀(i:Nat) (k:IntKind) (x:Int),a[i]? =some (Value.int k x)→b[i]? =some (Value.int k x)
theorem Zbb (h:Sl w n 1 A k q)(i:∀u∈q,∃a x,u=Value.int a x)(p:Only (fun c=>c=m) w v)(r:Row w m t l)(s:Row v m t L)(y:Z2H l L):Sl v n 1 A k q:=by
 refine⟨h.len,fun z=>?_⟩;obtain⟨b,o,e,B,C⟩:=h.at_ z;refine⟨b,o,e,B,fun j u f=>?_⟩;have d:=C j u f;by_cases g:b=m;·subst g;obtain⟨a,x,rfl⟩:=i u (List.mem_of_getElem? f);rw[r.cell]at d;rw[s.cell];exact y _ _ _ d
 ·have D:=YC w _ d;have E:=p.block b D g;unfold World.cell? at d ⊢;dsimp only at d ⊢;rw[E];exact d
theorem KI.sol (h:KI n w x s)(f:Only (fun q=>q=m) w v)(g:Row w m t l)(i:Row v m t L)(j:3≠t)(o:Z2H l L):KI n v x s:=by
 rcases h with ⟨A,c,e,p,r,y⟩|h;·exact .inl ⟨A,c,e,p,r,Zbb y (fun u z=>by obtain⟨a,_,rfl⟩:=ZT.1 z;exact⟨_,_,rfl⟩) f g i o⟩
 ·exact .inr (Zu h f fun k b e=>by
   subst e;rcases own_ne h g j with d|d;·rw[d]at b;cases b
   ·exact d b)
theorem KB.sol (h:KB n w x r)(f:Only (fun q=>q=m) w v)(g:Row w m t l)(i:Row v m t L)(j:5≠t)(o:Z2H l L):KB n v x r:=by
 rcases h with ⟨A,c,e,p,s,y⟩|h;·exact .inl ⟨A,c,e,p,s,Zbb y (fun u z=>by obtain⟨a,_,rfl⟩:=ZT.1 z;exact⟨_,_,rfl⟩) f g i o⟩
 ·exact .inr (Zu h f fun k b e=>by
   subst e;rcases own_ne h g j with d|d;·rw[d]at b;cases b
   ·exact d b)
theorem Xa.sol {f:List (U2×U2)}{g:List Zt}(h:Xa n w x f g)(a:Only (fun q=>q=m) w v)(b:Row w m t l)(j:Row v m t L)(r:281≠t)(s:3≠t)(y:5≠t)(o:Z2H l L):Xa n v x f g:=
 ⟨Zu h.own a (fun k c e=>by
   subst e;rcases own_ne h.own b r with d|d;·rw[d]at c;cases c
   ·exact d c),h.pl,fun i p=>⟨(h.at_ i p).1.sol a b j s o,(h.at_ i p).2.sol a b j y o⟩⟩
theorem Z8D (a:Nat)(p:Zf)(b c d e f g j:U2):Z2H (Yx a p b c d e f () ()) (Yx a p b c d e f g j):=by
 intro i k x h;unfold Yx at h ⊢;match i,h with
 |0,h=>exact h
 |1,h=>exact h
 |2,h=>exact h
 |3,h=>exact h
 |4,h=>exact h
 |5,h=>exact h
 |6,h=>exact h
 |7,h=>exact h
 |8,h=>exact h
 |9,h=>simp at h
 |10,h=>simp at h
 |i+11,h=>simp at h
theorem ZeJ (a:Nat)(p:Zf)(b c f g j d e:U2):Z2H (Yx a p b c () () () d e) (Yx a p b c f g j d e):=by
 intro i k x h;unfold Yx at h ⊢;match i,h with
 |0,h=>exact h
 |1,h=>exact h
 |2,h=>exact h
 |3,h=>exact h
 |4,h=>exact h
 |5,h=>exact h
 |6,h=>simp at h
 |7,h=>simp at h
 |8,h=>simp at h
 |9,h=>exact h
 |10,h=>exact h
 |i+11,h=>simp at h
