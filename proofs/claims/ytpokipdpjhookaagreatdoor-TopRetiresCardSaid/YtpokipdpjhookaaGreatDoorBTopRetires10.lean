/- Draw Solit Gf3 Gf4 RowM MatA MatB LtA LtB Lead LayInts -/
import Derived.Shelf.SlicesG.Turned
import Derived.Shelf.SlicesG.Cells
import Derived.Test.YtpokipdpjhookaaGreatDoorBTopRetires04
import Derived.Test.YtpokipdpjhookaaGreatDoorBTopRetires05
import Derived.Test.YtpokipdpjhookaaGreatDoorBTopRetires06
set_option maxHeartbeats 8000000
set_option maxRecDepth 20000
set_option linter.all false
namespace Go.Proofs
open Go Go.RowKit Tryz
variable {w v:World} {t:TypeId} {x y:Value} {n m k i j:Nat} {l:List Value}
def Dw (w:U1) (g a:Nat):Prop:=Row w g 366 [.int .u64 (a:Int)]
theorem Zcu (s:Nat)(w:U1)(b:s<4294967296):Calls prog 225 #[.int .u32 (s:Int)] w fun e a=>∃g,e=.returned (g,())∧w.heap.size≤g∧Dw a g s∧Below w w a:=by go_enter func225,ntmps225;go_wp2;go_ret;exact⟨_,rfl,Z4 _,Row.new _ _ _,(Z8 _ _).alloc (Z4 _) _⟩
theorem Zfw (a:Nat):IntKind.u64.wrap (IntKind.u64.wrap ((a:Int)*6364136223846793005)+1442695040888963407)=(Yd a:Int):=by
 have h:∀z:Int,IntKind.u64.wrap z=z % 18446744073709551616:=fun z=>by rw[IntKind.wrap_u64]
 rw[h,h];unfold Yd;omega
theorem Z9f (g a:Nat)(w:U1)(h:Dw w g a)(j:a<18446744073709551616):Calls prog 226 #[(g,())] w fun e c=>e=.returned (.int .u32 (XH (Yd a):Int))∧Dw c g (Yd a)∧Only (fun q=>q=g) w c:=by have d:=h.cell 0;have k:=h.frozen 0;simp only[ZE]at d;have H:=h;go_enter func226,ntmps226;go_wp2_with fail;rw[Zfw a];have f:=Z3V a;obtain⟨b,i⟩:=Zb (Yd a);rw[i]at f ⊢;go_ret;refine⟨YP ?_,H.set 0 _,Only.set (F:=fun q=>q=g) (Only.refl _ _) rfl 0 _⟩;unfold XH;omega
theorem Z8q (g a n:Nat)(w:U1)(h:Dw w g a)(k:a<18446744073709551616)(l:0<n)(p:n≤9223372036854775807):Calls prog 290 #[(g,()),(n:Int)] w fun e c=>e=.returned (.int .i64 ((XH (Yd a) % n:Nat):Int))∧Dw c g (Yd a)∧Only (fun q=>q=g) w c:=by have r:¬(n:Int)≤0:=Y;have H:=h;go_enter func290,ntmps290;go_wp2_with fail;refine(Z9f g a _ H k).mono ?_;rintro e s ⟨rfl,d,m⟩;have f:=Z3V a;obtain⟨b,i⟩:=Zb (Yd a);rw[i]at f d ⊢;have o:=ZfI b f;obtain⟨x,j⟩:=Zb (XH b);rw[j]at o ⊢;have t:x % n<n:=Vv _ l;go_wp2;go_ret;rw[i,j];exact⟨YP Y,d,m⟩
theorem Z3q (l r:Nat)(w:U1)(t:l≤1000000)(b:r≤1000)(d:l≤r*r)(f:∀q,q<r→q*q<l):Calls prog 339 #[(l:Int)] w fun e g=>e=.returned (r:Int)∧w=g:=by
 have h:=Z f;go_enter func339,ntmps339;go_wp2;go_loop [3] (fun i=>∃k:Nat,k≤r∧i=.int .i64 (k:Int)) (fun i=>r-(intOf i).toNat)
 ·exact⟨0,Y,rfl⟩
 ·obtain⟨k,c,rfl⟩:=hrel;have j:k*k≤r*r:=VI c c;have v:r*r≤1000*1000:=VI b b;obtain⟨s,a⟩:=Zb (k*k);have x:(k:Int)*k=(s:Int):=by rw[←a];simp
  rw[a]at j;by_cases m:k<r
  ·have n:=h k m;rw[a]at n;have o:(s:Int)<(l:Int):=Y;go_wp2;go_round;·exact⟨k+1,Y,Zg⟩
   ·exact Zh
  ·have p:k=r:=Y;subst p;rw[a]at d;have o:¬(s:Int)<(l:Int):=Y;go_wp2;go_ret;exact⟨rfl,rfl⟩
theorem Zex (r:Nat)(w:U1)(b:r≤8):Calls prog 175 #[.int .u64 (r:Int)] w fun e a=>e=.returned (Z0R r:Int)∧w=a:=by
 obtain rfl|rfl|rfl|rfl|rfl|rfl|rfl|rfl|rfl:r=0∨r=1∨r=2∨r=3∨r=4∨r=5∨r=6∨r=7∨r=8:=Y
 all_goals
  go_enter func175,ntmps175;go_wp2;go_ret;exact⟨YP Zi,rfl⟩
theorem ZaI (r:Nat)(w:U1)(a:r≤8):Calls prog 103 #[.int .u64 (r:Int)] w fun e b=>e=.returned (Z0R r:Int)∧w=b:=by go_enter func103,ntmps103;go_wp2_with fail;refine(Zex r _ a).mono ?_;rintro e c ⟨rfl,rfl⟩;go_wp2;go_ret;exact⟨rfl,rfl⟩
theorem Zdu (l k:Nat)(w:U1)(A:1≤l∧l≤64)(W:1≤k∧k≤l):Calls prog 291 #[(l:Int),(k:Int)] w fun e P=>e=.returned (wgt l k:Int)∧w=P:=by
 obtain⟨⟨c,B⟩,Q,C⟩:=Z8a l A.2 A.1;obtain⟨r,D⟩:=Zb (WO l);rw[D]at c B Q C;have g:=Z B;have E:∀a b:Nat,a≤64→b≤64→a*b≤4096:=fun a b R F=>VI R F;obtain⟨h,j⟩:∃p,k*(k-1)=p:=⟨_,rfl⟩;obtain⟨i,n⟩:∃p,l*k=p:=⟨_,rfl⟩;obtain⟨m,q⟩:∃p,l / r=p:=⟨_,rfl⟩;obtain⟨G,s⟩:∃p,1048576 / l=p:=⟨_,rfl⟩;obtain⟨H,t⟩:∃p,1048576 / h=p:=⟨_,rfl⟩;obtain⟨I,v⟩:∃p,1048576*r / i=p:=⟨_,rfl⟩;obtain⟨x,y⟩:∃p,1048576*r*Z0R r=p:=⟨_,rfl⟩;obtain⟨J,z⟩:∃p,x / l=p:=⟨_,rfl⟩;have F:Z0R r≤5:=by unfold Z0R;split <;> (try split) <;> (try split) <;> (try split) <;> (try split) <;> omega
 have b1:h≤4096:=by rw[←j];exact E _ _ Y Y
 have b2:i≤4096:=by rw[←n];exact E _ _ Y Y
 have a0:1≤i:=by rw[←n];exact Nat.mul_pos Y Y
 have bm:m≤64:=by rw[←q];exact Zj (Z1K _ _) A.2
 have bd:G≤1048576:=by rw[←s];exact Z1K _ _
 have a1:H≤1048576:=by rw[←t];exact Z1K _ _
 have a2:I≤8388608:=by rw[←v];exact Zj (Z1K _ _) Y
 have S:x≤41943040:=by rw[←y];exact Zj (VI (show 1048576*r≤8388608 from Y) F) Y
 have a3:J≤41943040:=by rw[←z];exact Zj (Z1K _ _) S
 have e1:(k:Int)*((k:Int)-1)=(h:Int):=by rw[←j];obtain⟨M,rfl⟩:∃M,k=M+1:=⟨k-1,Y⟩;simp
 have e2:(l:Int)*k=(i:Int):=by rw[←n];simp
 have e3:(l:Int) / (r:Int)=(m:Int):=by rw[←q];simp
 have e4:(1048576:Int) / (l:Int)=(G:Int):=by rw[←s];simp
 have e5:(1048576:Int) / (h:Int)=(H:Int):=by rw[←t];simp
 have e6:(1048576*(r:Int)) / (i:Int)=(I:Int):=by rw[←v];simp
 have e7:1048576*(r:Int)*(Z0R r:Int)=(x:Int):=by rw[←y];simp
 have e8:(x:Int) / (l:Int)=(J:Int):=by rw[←z];simp
 have T:=Z j;have N:wgt l k=(if 1<k then H else G)+(if k<m then I else if k=m then J else 0):=by unfold wgt;rw[D,j,t,s,q,n,v,y,z]
 rw[N];clear N j n q s t v y z D B E;have a4:¬(l:Int)=0:=Y;have a5:¬(r:Int)=0:=Y;have a6:¬(i:Int)=0:=Y;by_cases O:1<k
 ·have U:(1:Int)<(k:Int):=Y;have a7:0<h:=by rw[←T];exact Nat.mul_pos Y Y
  have a8:¬(h:Int)=0:=Y;rw[if_pos O];by_cases o:k<m;·have L:(k:Int)<(m:Int):=Y;rw[if_pos o];go_enter func291,ntmps291;go_wp2_with fail;refine(Z3q l r _ Y Y c g).mono ?_;rintro e d ⟨rfl,rfl⟩;go_wp2;go_ret;exact⟨YP Y,rfl⟩
  ·have L:¬(k:Int)<(m:Int):=Y;rw[if_neg o];by_cases f:k=m;·rw[if_pos f];subst f;go_enter func291,ntmps291;go_wp2_with fail;refine(Z3q l r _ Y Y c g).mono ?_;rintro e d ⟨rfl,rfl⟩;go_wp2_with fail;refine(ZaI r _ C).mono ?_;rintro e d ⟨rfl,rfl⟩;go_wp2;go_ret;exact⟨YP Y,rfl⟩
   ·have V:¬(k:Int)=(m:Int):=Y;rw[if_neg f];go_enter func291,ntmps291;go_wp2_with fail;refine(Z3q l r _ Y Y c g).mono ?_;rintro e d ⟨rfl,rfl⟩;go_wp2;go_ret;exact⟨YP Y,rfl⟩
 ·have U:¬(1:Int)<(k:Int):=Y;rw[if_neg O];by_cases o:k<m;·have L:(k:Int)<(m:Int):=Y;rw[if_pos o];go_enter func291,ntmps291;go_wp2_with fail;refine(Z3q l r _ Y Y c g).mono ?_;rintro e d ⟨rfl,rfl⟩;go_wp2;go_ret;exact⟨YP Y,rfl⟩
  ·have L:¬(k:Int)<(m:Int):=Y;rw[if_neg o];by_cases f:k=m;·rw[if_pos f];subst f;go_enter func291,ntmps291;go_wp2_with fail;refine(Z3q l r _ Y Y c g).mono ?_;rintro e d ⟨rfl,rfl⟩;go_wp2_with fail;refine(ZaI r _ C).mono ?_;rintro e d ⟨rfl,rfl⟩;go_wp2;go_ret;exact⟨YP Y,rfl⟩
   ·have V:¬(k:Int)=(m:Int):=Y;rw[if_neg f];go_enter func291,ntmps291;go_wp2_with fail;refine(Z3q l r _ Y Y c g).mono ?_;rintro e d ⟨rfl,rfl⟩;go_wp2;go_ret;exact⟨YP Y,rfl⟩
def Z35:Z_:=XR 255++Z17
def Yq (w:U1) (g:Nat):Prop:=Row w g 330 Z35
def Z2Z (w:U1) (g:Nat) (t:TypeId) (a:Array U2):Prop:=w.heap[g]? =some (.cells a t (0,0))
theorem Z2Z.below {w':U1}{g:Nat}{b:Array U2}(h:Z2Z w g t b)(c:Below w w w'):Z2Z w' g t b:=
 (c.block g (by rcases Yf g w.heap.size with a|a;exact a;unfold Z2Z at h;rw[Array.getElem?_eq_none a]at h;cases h)).trans h
theorem Z9L {P:Program}{g:Nat}{cs:Array U2}{c:Operand→U2}{o:Oper}(a:∃x,o.op=.load t x∧c x=.pointer (some ⟨g,0,none⟩))(h:Z2Z w g t cs)
  (b:∃n e,P.underlying t=some (.array n e)) (d:(P.info? t).map (·.size)=some cs.size):(execOp c o).run P w=.ok (.value (.agg cs)) w:=by
 obtain⟨x,a,f⟩:=a;obtain⟨n,e,b⟩:=b;unfold execOp;simp only[a,f,Instr.loadAt,Instr.sureAddr,Sem.run_bind,Sem.run_pure,Result.andThen_ok,run_loadVar_row w g t t cs (0,0) _ h b rfl d]
theorem Ze1 {P:Program}{c:Array U2}{d:Operand→U2}{o:Oper}(e:∃a b,o.op=.build t #[(0,a),(1,b)]∧d a=x∧d b=y)(h:P.built t [(0,x),(1,y)]=some c):(execOp d o).run P w=.ok (.value (.agg c)) w:=by obtain⟨a,b,e,f,g⟩:=e;unfold execOp;simp only[e,List.map_toArray,WQ,Z07,f,g,Sem.run_bind,run_build w t #[(0,x),(1,y)] c h,Sem.run_pure,Result.andThen_ok]
theorem Z4S (w:U1):Calls prog 199 #[] w fun e p=>∃g,e=.returned (g,())∧w.heap.size≤g∧Yq p g∧Below w w p:=by
 obtain⟨B,m⟩:=Zb w.heap.size;rw[m];go_enter func199,ntmps199;go_wp2_with fail;refine(Zdd _).mono ?_;rintro e b ⟨rfl,f⟩;rw[m]at f;have i:=Row.new b 325 zeroCells325;have c:Below B w (b.alloc (.cells zeroCells325 325)):=f.alloc (Zc f.size) _;rw[Za5]at i;have q:B≤b:=Zc f.size;obtain⟨a,d⟩:=Zb ((XR 255).toArray);rw[d];have j:=Z d.symm;have k:a.all (·.oneCell')=true:=by rw[←d];exact Zaz
 have r:(prog.info? 325).map (·.size)=some a.size:=by rw[←d];exact WK Z4h
 have z:=Z k;have n:=Z r;have s:(XR 0).toArray.size=a.size:=by rw[←d];rfl
 have A:=Z s;clear d k r s;go_wp2_with ((with_reducible show wpList _ _ _ (⟨none,_,_,_,_,_⟩::_) _ _);go_must (refine wpList_store_row rfl 325 _ _ rfl b a rfl rfl 325 (XR 0).toArray i n A z ?_))
 have l:Row ((b.alloc (.cells zeroCells325 325)).setRow b.heap.size a) b 325 (XR 255):=by have:=i.setRow (XR 255);rw[j];exact this
 have o:=c.setRow q a;generalize (b.alloc (.cells zeroCells325 325)).setRow b.heap.size a=w2 at l o ⊢;generalize b.heap.size=g at l q ⊢;have C:Z2Z w2 g 325 a:=by rw[j];exact l
 have t:prog.built 330 [(0,.agg a),(1,.agg Z17.toArray)]=some Z35.toArray:=by rw[j];kernel_rfl
 have D:=Z t;clear i c l t;refine oS [] (fun wx=>Z2Z wx g 325 a∧Below B w wx) [0,1,2,3,4,5] (⟨C,bq_ o 1⟩) fun hS=>?_;refine oC (y:=fun w hSw=>by apply Pure.val;refine Eq.trans (Z9L (g:=g) (cs:=a) ⟨_,rfl,rfl⟩ hSw.1 ⟨_,_,rfl⟩ n) ?_;rfl) (h:= ?_);refine oC (y:=fun w hSw=>by apply Pure.val;refine Eq.trans (Z9L (g:=g) (cs:=a) ⟨_,rfl,rfl⟩ hSw.1 ⟨_,_,rfl⟩ n) ?_;rfl) (h:= ?_);refine oG fun K hK=>?_;go_simp;go_at_call 256;refine(ZhM a j _).mono ?_;rintro e E ⟨rfl,c⟩;go_wp2_with fail;refine oK hK ⟨hS.1.below c,hS.2.trans (c.mono (Zc hS.2.size))⟩ fun hS=>?_;refine oC (y:=fun w hSw=>by apply Pure.val;refine Eq.trans (Ze1 ⟨_,_,rfl,rfl,rfl⟩ D) ?_;rfl) (h:= ?_);refine oG fun K hK=>?_;unfold Oper.wp execOp;simp only[Act.eval,Instr.box,newVar,Value.cells];refine hK _ (E.alloc (.cells Z35.toArray 330)) ⟨hS.1.below ((Z8 _ _).alloc (Z4 _) _),hS.2.alloc (Zc hS.2.size) _⟩ (fun v=>?_);clear hK K hS;have hS:=v;clear v;try simp only[aS,aN,aA,aY,aX]
 refine oV ?_;refine oD ?_;go_wp2;go_ret;exact⟨_,rfl,(by have k:=c.size;have x:=o.size;rw[m]at x;exact Zj x k),Row.new _ _ _,hS.2⟩
theorem Z73 (g:Nat)(w:U1):Calls prog 338 #[(g,())] w fun e a=>e=.returned (g,())∧w=a:=by go_enter func338,ntmps338;go_wp2;go_ret;exact⟨rfl,rfl⟩
theorem ZfN (i:Nat)(h:i<255):Z35[i]? =some (.int .u8 ((gx i).toNat:Int)):=by unfold Z35;rw[Yp (by rw[Z5g 255 Y];exact h)];unfold XR Z4y;rw[Yp (by rw[Zz,ZK,Z1F];omega),ZO,Z0K,if_pos h,Z7 (by rw[Z1F];omega),Zbg i Y,Z6,Z7 (by rw[Z1F];omega)];rfl
theorem ZfP (i:Nat)(h:i<256):Z35[255+i]? =some (.int .i64 ((Z32.getD i 0:Nat):Int)):=by unfold Z35;rw[Y7 (by rw[Z5g 255 Y];omega),Z5g 255 Y,Z2l];unfold Z17;rw[ZO,Z7 (Z9z ▸ h),Z6,Z7 (Z9z ▸ h)];rfl
theorem Yq.exp (h:Yq w n)(a:m<255):w.cell? (n,m)=some (.int .u8 ((gx m).toNat:Int)):=(Row.cell h m).trans (ZfN m a)
theorem Yq.log (h:Yq w n)(b:Byte):w.cell? (n,255+b.toNat)=some (.int .i64 ((gl b:Nat):Int)):=(Row.cell h _).trans (ZfP _ b.isLt)
theorem Z7x (b:Byte):gl b<255:=by
 by_cases h:b=0;·rw[h];decide
 ·exact(Z4t b h).1
theorem Z1n (b:Byte):((b.toNat:Int)=0)↔b=0:=by
 constructor;·intro h;apply Z0s;have:(0:Byte).toNat=0:=rfl;omega
 ·intro h;rw[h];rfl
theorem i64_in (z:Int)(h: -9223372036854775808≤z∧z≤9223372036854775807):IntKind.i64.wrap z=z:=by rw[Xe];omega
theorem Z4f (g:Nat)(a b r:Byte)(w:U1)(h:Yq w g)(d:ZU a b=r):Calls prog 288 #[(g,()),Za a,Za b] w fun e l=>e=.returned (Za r)∧∃n,l=w.drewN n:=by
 unfold Za;have E:=a.isLt;have F:=b.isLt;by_cases c:(a.toNat:Int)=0
 ·have q:((a.toNat:Int)==0)=true:=by simp[c]
  have f:r=0:=by rw[←d,(Z1n a).1 c,WX]
  have i:(r.toNat:Int)=0:=by rw[f];rfl
  rw[i];go_enter func288,ntmps288;go_wp2;go_ret;exact⟨rfl,0,rfl⟩
 ·by_cases j:(b.toNat:Int)=0;·have f:r=0:=(by rw[←d,(Z1n b).1 j,WN]);have i:(r.toNat:Int)=0:=(by rw[f];rfl);rw[i];go_enter func288,ntmps288;go_wp2;go_ret;exact⟨rfl,0,rfl⟩
  ·have s:=Yq.log h a;have t:=Yq.log h b;have v:=Z7x a;have A:=Z7x b;have k:gx ((gl a+gl b) % 255)=r:=(by rw[←d];unfold ZU;rw[if_neg (fun e=>e.elim (fun e=>c ((Z1n a).2 e)) (fun e=>j ((Z1n b).2 e)))]);obtain⟨x,B⟩:=Zb (gl a);obtain⟨y,C⟩:=Zb (gl b);rw[B]at s v k;rw[C]at t A k;have m:(x+y) % 255<255:=Vv _ Y;have o:=Yq.exp h m;rw[k]at o;obtain⟨z,p⟩:=Zb ((x+y) % 255);rw[p]at o m;have q:((a.toNat:Int)==0)=false:=beq_eq_false_iff_ne.2 c;have G:((b.toNat:Int)==0)=false:=beq_eq_false_iff_ne.2 j;have D:=Z p;go_enter func288,ntmps288;go_wp2_with fail;refine(Z73 g _).mono ?_;rintro e l ⟨rfl,rfl⟩;go_wp2_with fail;have H:(a.toNat:Int)<256:=Y;have I:(b.toNat:Int)<256:=Y;have J:(IntKind.i64.wrap ((x:Int)+y)).tmod 255=(z:Int):=(by rw[i64_in _ Y];have:=D.out;rw[Int.tmod_eq_emod_of_nonneg Y];omega);have L:(z:Int)<255:=Y;go_quiet (fail)
   go_wp2;go_ret;exact⟨rfl,nq,rfl⟩
theorem Zia (g:Nat)(a r:Byte)(w:U1)(h:Yq w g)(c:Z1_ a=r):Calls prog 311 #[(g,()),Za a] w fun e d=>e=.returned (Za r)∧∃n,d=w.drewN n:=by
 unfold Za;have t:=a.isLt;by_cases b:(a.toNat:Int)=0
 ·have l:r=0:=by rw[←c,(Z1n a).1 b];rfl
  have m:(r.toNat:Int)=0:=by rw[l];rfl
  rw[m];go_enter func311,ntmps311;go_wp2;go_ret;exact⟨rfl,0,rfl⟩
 ·have o:=Yq.log h a;have p:=Z7x a;have f:gx ((255-gl a) % 255)=r:=by rw[←c];unfold Z1_;rw[if_neg (fun e=>b ((Z1n a).2 e))]
  obtain⟨x,q⟩:=Zb (gl a);rw[q]at o p f;have i:(255-x) % 255<255:=Vv _ Y;have j:=Yq.exp h i;rw[f]at j;obtain⟨z,k⟩:=Zb ((255-x) % 255);rw[k]at j i;have v:((a.toNat:Int)==0)=false:=beq_eq_false_iff_ne.2 b;have s:=Z k;have y:(a.toNat:Int)<256:=Y;have A:(IntKind.i64.wrap (255-(x:Int))).tmod 255=(z:Int):=by rw[i64_in _ Y];have:=s.out;rw[Int.tmod_eq_emod_of_nonneg Y];omega
  have B:(z:Int)<255:=Y;go_enter func311,ntmps311;go_wp2_with fail;refine(Z73 g _).mono ?_;rintro e d ⟨rfl,rfl⟩;go_wp2_with fail;go_quiet (fail)
  go_wp2;go_ret;exact⟨rfl,nq,rfl⟩
theorem ZiC (g n:Nat)(w:U1)(h:Yq w g)(i:n<1048576):Calls prog 297 #[(g,()),(n:Int)] w fun e a=>e=.returned (Za (gx (n % 255)))∧∃m,a=w.drewN m:=by
 unfold Za;have b:n % 255<255:=Vv _ Y;have d:=Yq.exp h b;obtain⟨z,c⟩:=Zb (n % 255);rw[c]at d b ⊢;have f:=Z c;have j:((n:Int)).tmod 255=(z:Int):=by have:=f.out;rw[Int.tmod_eq_emod_of_nonneg Y];omega
 have k:(z:Int)<255:=Y;have l:¬(z:Int)<0:=Y;go_enter func297,ntmps297;go_wp2_with fail;refine(Z73 g _).mono ?_;rintro e a ⟨rfl,rfl⟩;go_wp2;go_ret;exact⟨rfl,0,rfl⟩
theorem ZhJ (c:Byte)(l:Y_)(k n:Nat)(a:k<l.length)(d:l.length=n):(((VL c l).take k).map Za++List.replicate (n-k) (Value.int .u8 0)).set k (Za (ZU c (l.getD k 0)))=((VL c l).take (k+1)).map Za++List.replicate (n-(k+1)) (Value.int .u8 0):=by
 have b:(((VL c l).take k).map Za).length=k:=by rw[Zz,ZK,Z0Y];omega
 rw[Wn _ _ Y,b,W9,ZR (by rw[Z0Y];exact a),ZV,YH];congr 1;rw[show n-k=(n-(k+1))+1 from Y,Z3H,YL];have:=Z74 c l k;rw[Z6,Z7 (by rw[Z0Y];exact a)]at this;simp only[Yz]at this;rw[this];rfl
theorem Z0n {w:U1}{g base n:Nat}{l:Y_}(h:Row w g 5 (l.map Za))(a:base≤g)(b:l.length=n)(c:n≤1048576):OB base w (g,n,n) l:=by subst b;have:=h.own (base:=base) (size:=1) (n:=l.length) (cap:=l.length) a (Z4 _) (by simp only[maxLen];omega) Ze;rwa [ZP Ze]at this
theorem Ze0 (g:Nat)(w:U1):Calls prog 350 #[(g,())] w fun e a=>e=.returned (g,())∧w=a:=by go_enter func350,ntmps350;go_wp2;go_ret;exact⟨rfl,rfl⟩
theorem ZeG (g:Nat)(x:Byte)(B:Nat)(A:X_)(n c:Nat)(l:Y_)(w:U1)(C:Yq w g)(h:Sl w B 1 A n (l.map Za))(D:B≤w)(hn:n≤1048576):
  Calls prog 310 #[(g,()),Za x,(A,n,c)] w fun e E=>∃F G,e=.returned (.slice F n G)∧OB w E (F,n,G) (VL x l)∧Below w w E:=by
 obtain⟨Q,R,S,T,U⟩:=info_parts WP;have I:l.length=n:=by have:=h.len;simpa using this
 unfold Za;have a3:=x.isLt;go_enter func310,ntmps310;go_wp2_with fail;refine(Ze0 g _).mono ?_;rintro e w0 ⟨rfl,rfl⟩;go_wp2_with ((at_make;refine Z0E _ rfl (.tmp 13) (.tmp 13) 32 rfl 5 Q (.int .u8 0) 1 underlying32 R S T U rfl .i64 .i64 _ _ n n rfl rfl rfl Y Y Y Y ?_;intro V o J W))
 obtain⟨a,q⟩:=Zb w.heap.size;rw[q]at o J W D ⊢;have L:=C;have H:=h;have b:=Z I;have R0:Row V a 5 (((VL x l).take 0).map Za++List.replicate (n-0) (Value.int .u8 0)):=o;clear C h I o;go_loopw [17] (fun i wr=>∃k:Nat,k≤n∧i=.int .i64 (k:Int)∧Hid (Row wr a 5 (((VL x l).take k).map Za++List.replicate (n-k) (Value.int .u8 0)))∧Below a w wr) (fun i _=>n-(intOf i).toNat)
 ·exact⟨0,Y,rfl,R0,J⟩
 ·obtain⟨k,hk,rfl,f,j⟩:=hrel;have M:=j;by_cases r:k<n
  ·have a4:(k:Int)<(n:Int):=Y;obtain⟨ba,oa,ea,a5,N⟩:=(H.below (j.mono D)).get r (XF l k (by rw[b];exact r));subst ea;obtain⟨y,m⟩:=Zb (l.getD k 0);rw[m]at N;have s:=f.set k (Za (ZU x y));rw[←m,ZhJ x l k n (by rw[b];exact r) b,m]at s;have a0:Yq wr g:=L.below (j.mono (by omega:a≤a)) (Zc L.lt);have O:=f.frozen k;have t:=f.cell k;rw[Z7 (by rw[Zw,Zz,ZK,Z0w,Z0Y,b];omega)]at t;clear m;unfold Za at N;have a6:=y.isLt;clear j;go_wp2_with fail;refine(Z4f g x y _ _ a0 rfl).mono ?_;rintro e w2 ⟨rfl,d,rfl⟩;obtain⟨z,v⟩:=Zb (ZU x y);rw[v];have a1:Row ((wr.drewN d).setCell (a,k) (Za z)) a 5 (((VL x l).take (k+1)).map Za++List.replicate (n-(k+1)) (Value.int .u8 0)):=(by rw[←v];exact s);have a7:(wr.drewN d).frozen? ⟨a,k,none⟩=false:=O;have a8:=(show(wr.drewN d).cell? (a,k)=_ from t);have a2:=(bq_ M d).setCell (p:=(⟨a,k,none⟩:U3)) (Z4 a) (Za z);clear O t s v;unfold Za;go_wp2;go_roundw;·exact⟨k+1,Y,Zg,a1,a2⟩
   ·exact Zh
  ·have he:k=n:=Y;subst he;have P:=f.out;rw[W9,List.replicate_zero,Wo,ZP (by rw[Z0Y,b];omega)]at P;go_wp2;go_ret;exact⟨_,_,rfl,by rw[q];exact Z0n P (Z4 _) (by rw[Z0Y,b]) Y,by rw[q];exact M⟩
theorem Zh2 (n i:Nat)(w:U1)(j:i<n)(t:n≤64):Calls prog 296 #[(n:Int),(i:Int)] w fun e c=>∃d f,e=.returned (.slice d n f)∧OB w c (d,n,f) ((Zm n).set i 1)∧Below w w c:=by
 obtain⟨k,l,m,o,q⟩:=info_parts WP;go_enter func296,ntmps296;obtain⟨b,g⟩:=Zb w.heap.size;rw[g];go_wp2_with ((at_make;refine Z0E _ rfl (.tmp 21) (.tmp 21) 32 rfl 5 k (.int .u8 0) 1 underlying32 l m o q rfl .i64 .i64 _ _ n n rfl rfl rfl Y Y Y Y ?_;intro r a h v;rw[g]at a h ⊢;have x:=a.frozen i;have s:=a.cell i;rw[XY,if_pos j]at s))
 go_ret;refine⟨_,_,rfl,Z0n (w:=r.setCell (b,i) (.int .u8 1)) ((a.set i (.int .u8 1)).to ?_) (Z4 _) (by simp[Zm]) Y,h.setCell (p:=(⟨b,i,none⟩:U3)) (Z4 b) _⟩;unfold Zm;rw[XZ,List.map_replicate];rfl
theorem Z9e (g:Nat)(w:U1):Calls prog 253 #[(g,())] w fun e a=>e=.returned (g,())∧w=a:=by go_enter func253,ntmps253;go_wp2;go_ret;exact⟨rfl,rfl⟩
theorem Z8M (B:Nat)(A:X_)(n c m:Nat)(d:Z_)(a:Z0)(w:U1)(h:XL w B A n d a)(f:0<n)(g:∀l∈a,l.length=m):Calls prog 250 #[(A,n,c)] w fun e i=>e=.returned (m:Int)∧w=i:=by obtain⟨b,o,p,q,rfl,r,j,s,t,v⟩:=h.get f;have k:(a.getD 0 []).length=m:=g _ (by have:=h.len;rw[Z6,Z7 Y];exact Zp _);rw[k,XV]at j;have x:(0:Int)<(n:Int):=Y;have y:¬(n:Int)=0:=Y;go_enter func250,ntmps250;go_wp2;go_ret;exact⟨rfl,rfl⟩
theorem Z6P (B:Nat)(A:X_)(n c m:Nat)(r:Z_)(d:Z0)(w:U1)(h:XL w B A n r d)(E:n≤1048576)(f:∀l∈d,l.length=m)(F:m≤64):Calls prog 249 #[(A,n,c)] w fun e s=>e=.returned (.bool true)∧w=s:=by
 have H:=h;have g:∀k,k<n→(d.getD k []).length=m:=fun k t=>f _ (by have:=h.len;rw[Z6,Z7 Y];exact Zp _);have j:=Z g;clear h f g;go_enter func249,ntmps249;go_wp2;go_loop [7] (fun i=>∃k:Nat,k≤n∧i=.int .i64 (k:Int)) (fun i=>n-(intOf i).toNat)
 ·exact⟨0,Y,rfl⟩
 ·obtain⟨k,t,rfl⟩:=hrel;by_cases p:k<n
  ·have G:(k:Int)<(n:Int):=Y;obtain⟨b,o,I,J,rfl,L,v,x,M,y⟩:=H.get p;obtain⟨N,O,P,Q,a,R,q,z,S,C⟩:=H.get (show 0<n from Y);injection a with a;injection a with a D;subst a D;rw[j k p]at v;rw[j 0 Y]at q;rw[XV]at q;clear y C x z;have T:(m !=m)=false:=Ze;have U:¬(64:Int)<(m:Int):=Y;have V:(0:Int)<(n:Int):=Y;go_wp2;go_round;·exact⟨k+1,Y,Zg⟩
   ·exact Zh
  ·go_wp2;go_ret;exact⟨rfl,rfl⟩
theorem Zae (B:Nat)(A:X_)(T:Z_)(d:Z0)(n c:Nat)(w:U1)(h:XL w B A n T d)(U:B≤w)(hn:n≤1048576)(C:∀i,i<n→(d.getD i []).length≤1048576):
  Calls prog 251 #[(A,n,c)] w fun e D=>∃E F f,e=.returned (.slice E n F)∧Zq w D (E,n,F) f d∧WF f∧Below w w D:=by
 have H:=Z h.len;have V:=Z C;obtain⟨W,a0,a1,a2,a3⟩:=info_parts Z02;clear C;generalize hg:w.heap.size=G at*;have I:=Z hg;clear hg;go_enter func251,ntmps251;obtain⟨i2,a4,a5,a6,a7⟩:=info_parts Z02;go_wp2_with ((at_make;refine Z0E _ rfl (.const Nat) (.tmp 7) 106 rfl 32 i2 () 24 underlying106 a4 a5 a6 a7 rfl .i64 .i64 _ _ 0 n rfl rfl rfl Y Y Y Y ?_;intro w1 r1 J s1;have L:=r1.own (base:=w) (size:=1) (n:=0) (cap:=n) (Z4 _) (ZY _) (by simp only[maxLen];omega) Ze))
 rw[I]at J L ⊢;have a8:Zq G w1 (G,0,n) [] []:=⟨L,fun i hi=>absurd hi Ze⟩;go_loopw [3,11] (fun v i wr=>∃(k:Nat) (f:Z_) (g:X_) (j:Nat),k≤n∧i=.int .i64 k∧v=.slice g k j∧Zq G wr (g,k,j) f (d.take k)∧WF f∧Below G w wr) (fun _ i _=>n-(intOf i).toNat)
 ·exact⟨0, [],_,_,Y,rfl,rfl,a8,List.Pairwise.nil,J⟩
 ·obtain⟨k,f,g,j,m,rfl,rfl,p,r,q⟩:=hrel;have s:G≤wr:=YU q.size I.out;by_cases t:k<n
  ·obtain⟨b,o,A1,c1,rfl,hb,hc,af,ag,a9⟩:=((h.mono U).below q).get t;have M:k<d.length:=(by rw[H];exact t);have aa:=Z (show d.take (k+1)=d.take k++ [d.getD k []] by rw[ZR M];simp[M]);have N:=Z (show(d.take k).length=k from Zx);have ah:=V k t;generalize d.getD k []=x at*;generalize hlx:x.length=lx at*;have HX:=Z hlx;clear hlx;go_wp2_with fail;refine(Z0A G A1 x lx c1 _ a9 s Y).mono ?_;rintro e w2 ⟨v2,rfl,y,l⟩;obtain⟨A2,c2,O,ab,ai,_⟩:=y.read;rw[HX]at O ab;subst O;have P:∀a∈f,∀k,a.ownBlock=some k→k<wr:=fun a ha k m=>(p.lt a ha k m).2;have Q:∀k,(Value.slice A2 lx c2).ownBlock=some k→wr.heap.size≤k:=fun k m=>(ZC y k m).1;have ac:=Z6j r P Q;clear P Q r;have R:=p.below l;have z:=R.own;rw[N]at z;go_wp2_with (at_builtin;go_must (refine Y5 rfl (.tmp 15) (.tmp 18) 106 rfl G 32 W () 1 24 underlying106 a0 a1 a2 a3 rfl Y (g,k,j) k f rfl (z.alloc _) _ _ 1 1 _ rfl (Sl.fresh _ _ _ _ 1 rfl) (by simp[Value.oneCell']) (k+1) rfl _ rfl Y Y (by have:=l.size;simp;omega) ?_);intro A6 c6 w6 o6 S _)
   have b6:Below G w w6:=Y9 ((q.trans (l.mono s)).alloc (Zc l.size) _) (z.alloc _) S (Z4 _) (by have:=l.size;simp;omega);have ad:=(R.below ((Z8 _ _).alloc (Z4 _) _)).push (x:=x) (OB.below (base:=G) (ZA y s) ((Z8 _ _).alloc (Z4 _) _)) (by rw[N];exact o6) S;go_roundw;·exact⟨k+1,_,A6,c6,Y,Zg,rfl,by rw[aa];exact ad,ac,b6⟩
   ·exact Zh
  ·have ae:n=k:=Y;subst ae;go_wp2;go_ret;rw[ZP (by rw[H];omega)]at p;exact⟨g,j,f,rfl,p,r,q⟩
theorem XN (h:w.ownsRow n t 1 x m l)(p:0<m):
  ∃g c a,x=.slice (some ⟨g,0,none⟩) m c∧n≤g∧Row w g t a∧a.length=c∧a.take m=l∧m≤c∧c≤maxLen:=by
 rcases h.2 with ⟨b,q⟩|⟨g,d,a,b,e,f,i,j,k,o⟩;·omega
 ·refine⟨g,d,a.toList,b,e,by simpa[Row]using f,by simpa using k,by simpa using o,i,j⟩
theorem Z0f (h:w.ownsRow n t 1 (i,m,k) m l)(q:j<m)(u:U2):
  (w.setCell (i,j) u).ownsRow n t 1 (i,m,k) m (l.set j u):=by
 obtain⟨r,s,a,e,b,c,d,f,g,o⟩:=XN h Y;injection e with e v p;injection e with e;injection e with e _ _;subst e p;refine⟨by have:=h.1;simpa using this,.inr ⟨i,k,(a.set j u).toArray,rfl,b,c.set j _,g,o,by simpa using d,?_⟩⟩;rw[←f];simp only[Wy,Z2T,List.take_set]
theorem Ww (h:w.ownsRow n t 1 (i,m,k) m l)(b:j<m):
  w.cell? (i,j)=l[j]? ∧w.frozen? ⟨i,j,none⟩=false:=by
 obtain⟨f,g,o,e,p,a,q,c,r,s⟩:=XN h Y;injection e with e v d;injection e with e;injection e with e _ _;subst e d;refine⟨?_,a.frozen j⟩;rw[a.cell j,←c,Z0K,if_pos b]
theorem od_ (h:w.ownsRow n t k x m l)(d:Nat):(w.drewN d).ownsRow n t k x m l:=h
def Xt (x:Byte) (b a:Y_) (k:Nat):Y_:=(Wi x b a).take k++a.drop k
theorem Z4r (x:Byte)(b a:Y_):Xt x b a 0=a:=by simp[Xt]
theorem Z5t (x:Byte)(b a:Y_)(k:Nat)(h:k≤a.length):(Xt x b a k).length=a.length:=by unfold Xt;rw[Zw,ZK,VO,Z0r];omega
theorem Z5n (x:Byte)(b a:Y_)(n:Nat)(h:a.length=n):Xt x b a n=Wi x b a:=by unfold Xt;rw[ZP (by rw[VO];omega),List.drop_of_length_le Y,Wo]
theorem Z5q (x:Byte)(b a:Y_)(k:Nat)(h:k<a.length):(Xt x b a k).getD k 0=a.getD k 0:=by unfold Xt;simp only[Z6];rw[Y7 (by rw[ZK,VO];omega),ZK,VO,Z04 Y,W9,Z0o,XV]
theorem Z5r (x:Byte)(b a:Y_)(k:Nat)(h:k<a.length):(Xt x b a k).set k (a.getD k 0 ^^^ ZU x (b.getD k 0))=Xt x b a (k+1):=by
 unfold Xt;have c:((Wi x b a).take k).length=k:=by rw[ZK,VO];omega
 rw[Wn _ _ Y,c,W9,ZR (by rw[VO];exact h),YH];congr 1;rw[Z0q h,YL];have:=Z3z x b a k h;rw[Z6,Z7 (by rw[VO];exact h)]at this;simp only[Yz]at this;rw[this];rfl
theorem Yq.only {g:Nat}{G:U0}(h:Yq w g)(a:Only G w v)(b:¬G g):Yq v g:=Row.only h a b
theorem ZgU (g:Nat)(x:Byte)(P p:Nat)(A:X_)(n Q a l:Nat)(f c:Y_)(w:U1)(R:Yq w g)(E:Sl w P 1 A n (f.map Za))(S:∀b o,A=some ⟨b,o,none⟩→b≠a)(T:g≠a)
  (B:w.ownsRow p 5 1 (a,n,l) n (c.map Za)) (hn:n≤1048576):
  Calls prog 312 #[(g,()),Za x,(A,n,Q),(a,n,l)] w fun e m=>e=.returned (.tuple #[])∧
   m.ownsRow p 5 1 (a,n,l) n ((Wi x f c).map Za)∧Only (fun q=>q=a) w m:=by
 have U:c.length=n:=by have:=B.1;simpa using this
 have V:f.length=n:=by have:=E.len;simpa using this
 have r:=Z U;have W:=Z V;unfold Za;have a9:=x.isLt;by_cases F:(x.toNat:Int)=0
 ·have e1:Wi x f c=c:=by
   rw[(Z1n x).1 F];unfold Wi;apply VP;intro i;rw[Z2W];cases c[i]? with
   |none=>rfl
   |some u=>simp only[Z0p,WX];rw[bx0]
  rw[e1];go_enter func312,ntmps312;go_wp2_with fail;refine bodyPost_ret (results_none rfl _ _ _) rfl ?_;exact⟨rfl,B,Only.refl _ _⟩
 ·have g1:((x.toNat:Int)==0)=false:=beq_eq_false_iff_ne.2 F;have a0:∀wx,Only (fun q=>q=a) w wx→Yq wx g:=fun wx h=>R.only h T;have a1:=E;have a2:=Z S;have G:=B;rw[show c=Xt x f c 0 from(Z4r x f c).symm]at G;go_enter func312,ntmps312;go_wp2;go_loopw [14] (fun i wr=>∃k:Nat,k≤n∧i=.int .i64 (k:Int)∧Hid (wr.ownsRow p 5 1 (a,n,l) n ((Xt x f c k).map Za))∧Hid (Only (fun q=>q=a) w wr)) (fun i _=>n-(intOf i).toNat)
  ·exact⟨0,Y,rfl,G,Z (Only.refl _ _)⟩
  ·obtain⟨k,hk,rfl,v,s⟩:=hrel;by_cases j:k<n
   ·have aa:(k:Int)<(n:Int):=Y;obtain⟨C,oa,ea,ab,H⟩:=a1.get j (XF f k (W ▸ j));subst ea;have a3:=a2 _ _ rfl;have a4:C<w:=block_lt_of_cell H;have I:wr.cell? (C,oa+k)=some (Za (f.getD k 0)):=(by have:=s.block C a4 a3;rw[←H];simp only[World.cell?,this]);obtain⟨D,J⟩:=Zb (f.getD k 0);rw[J]at I;have t:=(Ww v j).1;rw[XF _ k (by rw[Z5t _ _ _ _ (r ▸ hk),r];exact j),Z5q _ _ _ _ (r ▸ j)]at t;obtain⟨y,L⟩:=Zb (c.getD k 0);rw[L]at t;obtain⟨z,M⟩:=Zb (ZU x D);have N:=Z5r x f c k (r ▸ j);rw[J,L,M]at N;have a5:=Z N;have HZ:=Z M;have ac:=y.isLt;have ad:=z.isLt;have ae:=D.isLt;unfold Za at I t;go_wp2_with fail;refine oS [10] (fun m=>m.cell? ⟨a,k,none⟩=some (.int .u8 (y.toNat:Int))∧Only (fun q=>q=a) w m∧m.ownsRow p 5 1 (a,n,l) n ((Xt x f c k).map Za)) [0,1,2,3,4,5,6,7,8,9,10] (⟨t,s.drew,od_ v 1⟩) fun hS=>?_;(iterate 7 refine oV ?_);refine oG fun K hK=>?_;go_simp;go_at_call 288;refine(Z4f g x D _ _ (a0 _ hS.2.1) rfl).mono ?_;rintro e w5 ⟨rfl,d,rfl⟩;rw[HZ];unfold Za;go_wp2_with fail;refine oK hK ⟨t,s.drewN (1+d),od_ v (1+d)⟩ fun hS=>?_;refine oV ?_;refine oV ?_;refine oM 10 fun K hK=>?_;have af:=(Ww hS.2.2 j).2;have ag:=hS.1;have a6:=Z0f hS.2.2 j (Za (y ^^^ z));go_simp;refine oL hK ?_;refine oD ?_;rw[b8x y z];have a7:((wr.drewN (1+d)).setCell (a,k) (.int .u8 ((y ^^^ z).toNat:Int))).ownsRow p 5 1 (a,n,l) n ((Xt x f c (k+1)).map Za):=(by rw[←a5,XZ];exact a6);have a8:=(s.drewN (1+d)).set (g:=a) rfl k (.int .u8 ((y ^^^ z).toNat:Int));go_wp2;go_roundw;·exact⟨k+1,Y,Zg,a7,a8⟩
    ·exact Zh
   ·have he:k=n:=Y;subst he;have O:=v.out;rw[Z5n _ _ _ _ r]at O;go_wp2;go_end0;exact⟨rfl,O,s⟩
def bgI (a:Zl) (b c:Nat):Int:=match VA a b c with|some i=>(i:Int)|none=> -1
def Zk9 (e:U1) (A:X_) (n c:Nat) (b d:Nat) (a:Zl) (f:Act) (w:U1):Prop:=
 ∃(i:Nat),w=e∧b≤i∧i≤n∧Hid (∀j,b≤j→j<i→at2 a j d=0)∧
 ∃g h k l m o p q r s t v x y z B C D E F:U2,f={ tmps:= #[.slice A n c,.int .i64 (b:Int),.int .i64 (d:Int),g,h,k,l,.int .i64 (i:Int),m,o,p,q,r,s,t,v,x,y,z,B,C,D,E,F],defers:= []}
def Zk7 (b:U1) (n:Nat) (c d:Nat) (a:Zl) (e:Act) (w:U1):Prop:=
 ∃(i:Nat),w=b∧i<n∧Hid (VA a c d=some i)∧
 ∃f g h j k l m o p q r s t v x y z A B C D E F:U2,e={ tmps:= #[f,g,h,j,k,l,m,.int .i64 (i:Int),o,p,q,r,s,t,v,x,y,z,A,B,C,D,E,F],defers:= []}
theorem Zdv (B:Nat)(A:X_)(n c f d m:Nat)(O:Z_)(a:Zl)(w:U1)(h:XL w B A n O a)(hn:n≤1048576)(z:Wd m a)(P:f≤n)(hc:d<m)(hm:m≤64)(r:Int)(C:bgI a f d=r):
  Calls prog 309 #[(A,n,c),(f:Int),(d:Int)] w fun e Q=>e=.returned r∧w=Q:=by
 have D:=Z C;have R:=z;have H:=h;clear h z C;go_enter func309,ntmps309;go_wp2_with fail;refine Z4B 0 1 (Zk9 w A n c f d a) (Zk7 w n f d a) (fun p _=>n-(intOf (p.tmps.getD 7 undef)).toNat) rfl rfl ?_ ?_ ?_;·intro E;have S:=Z E;clear E;go_wp2_with fail;refine wp_label ?_;simp only[Exit.then];rename_i K0 T;refine T _ _ (S _ _ ?_);exact⟨f,rfl,Z4 _,P,Z fun j k g=>absurd g Y,_,_,_,_,_,_,_,_,_,_,_,_,_,_,_,_,_,_,_,_,rfl⟩
 ·rintro p U ⟨i,rfl,V,ah,q,W,x4,x5,x6,x8,x9,a0,a1,a2,a3,a4,a5,a6,a7,a8,a9,aa,ab,ac,ad,rfl⟩;by_cases s:i<n
  ·have ai:¬(n:Int)≤(i:Int):=Y;have aj:(i:Int)<(n:Int):=Y;obtain⟨b,o,A1,c1,rfl,F,ae,af,ak,G⟩:=H.get s;have I:i<a.length:=(by rw[H.len];exact s);have ag:=R i I;obtain⟨ba,oa,ea,al,J⟩:=G.get (show d<(a.getD i []).length from Y) (XF _ d Y);subst ea;rw[ag]at ae af;have am:(d:Int)<(m:Int):=Y;obtain⟨y,t⟩:=Zb ((a.getD i []).getD d 0);rw[t]at J;have L:at2 a i d=y:=t;have M:=Z L;unfold Za at J;have an:=y.isLt;clear t L G;by_cases l:(y.toNat:Int)=0
   ·have g0:((y.toNat:Int) !=0)=false:=(by rw[l];rfl);have v:y=0:=(Z1n y).1 l;go_wp2_with fail;refine wp_goto ?_;exact .inl ⟨rfl,⟨i+1,rfl,Y,Y,Z fun j k g=>(by
     rcases Yf j i with N|N;·exact q j k N
     ·have:j=i:=Y;rw[this,M,v]),_,_,_,_,_,_,_,_,_,_,_,_,_,_,_,_,_,_,_,_,rfl⟩,show n-((i:Int)+1).toNat<n-(i:Int).toNat from Y⟩
   ·have g0:((y.toNat:Int) !=0)=true:=(by simp[bne,beq_eq_false_iff_ne.2 l]);have v:y≠0:=fun e=>l ((Z1n y).2 e);have x:VA a f d=some i:=ZjH V I (by rw[M];exact v) q;go_wp2_with fail;refine wp_goto ?_;exact .inr ⟨rfl,⟨i,rfl,s,Z x,_,_,_,_,_,_,_,_,_,_,_,_,_,_,_,_,_,_,_,_,_,_,_,rfl⟩⟩
  ·have he:i=n:=Y;subst he;have x:VA a f d=none:=ZhS fun j k g=>q j k (by rw[H.len]at g;exact g);obtain rfl:r= -1:=by rw[←D];unfold bgI;rw[x]
   go_wp2_with fail;simp only[Z06];go_ret;exact⟨rfl,rfl⟩
 ·rintro p U ⟨i,rfl,hi,F,x0,x1,x2,W,x4,x5,x6,x8,x9,a0,a1,a2,a3,a4,a5,a6,a7,a8,a9,aa,ab,ac,ad,rfl⟩;obtain rfl:r=(i:Int):=by rw[←D];unfold bgI;rw[F]
  go_wp2_with fail;simp only[Z06];go_ret;exact⟨rfl,rfl⟩
def ZM (n:Nat):U2:= .int .i64 (n:Int)
def Z2q (l i:Nat):Z_:=(List.range i).map fun j=>ZM (Xr l (j+1))
theorem ZeR (l i:Nat):Z2q l (i+1)=Z2q l i++ [ZM (Xr l (i+1))]:=by unfold Z2q;rw[Wp,ZV];rfl
theorem Zf_ (l:Nat):Z2q l l=(X7 l).map ZM:=by unfold Z2q X7;rw[WS];rfl
theorem Zbc:∀l,l≤64→∀k,k≤64→1≤l→1≤k→wgt l k≤50000000:=by
 intro l a k d b e;obtain⟨⟨f,g⟩,h,i⟩:=Z8a l a b;unfold wgt;have c:Z0R (WO l)≤5:=by unfold Z0R;split <;> (try split) <;> (try split) <;> (try split) <;> (try split) <;> omega
 have j:1048576 / (k*(k-1))≤1048576:=Z1K _ _;have m:1048576 / l≤1048576:=Z1K _ _;have n:1048576*WO l / (l*k)≤1048576*WO l:=Z1K _ _;have o:1048576*WO l*Z0R (WO l) / l≤1048576*WO l*Z0R (WO l):=Z1K _ _;have p:1048576*WO l*Z0R (WO l)≤8388608*5:=VI Y c;split <;> split <;> (try split) <;> omega
theorem Z7i (l:Nat)(a:1≤l∧l≤64):∀i,i≤64→Xr l i≤i*50000000
 |0,_=>by simp[Xr]
 |i+1,hi=>by have b:=Z7i l a i Y;have c:=Zbc l a.2 (i+1) hi a.1 Y;rw[Xr,X9];omega
theorem Zei (l:Nat)(w:U1)(a:1≤l∧l≤64):Calls prog 228 #[(l:Int)] w fun e j=>∃A c,e=.returned (.slice A l c)∧j.ownsRow w 3 1 (A,l,c) l ((X7 l).map ZM)∧Below w w j:=by
 obtain⟨k,m,o,p,r⟩:=info_parts VC;obtain⟨G,d⟩:=Zb w.heap.size;have t:=Z d;rw[d];clear d;have T:¬(l:Int)<1:=Y;have U:¬(64:Int)<(l:Int):=Y;go_enter func228,ntmps228;go_wp2_with ((at_make;refine Z0E _ rfl (.const Nat) (.tmp 12) 22 rfl 3 k Nat 8 underlying22 m o p r rfl .i64 .i64 _ _ 0 l rfl rfl rfl Y Y Y Y ?_;intro V L x W;have y:=L.own (base:=w) (size:=1) (n:=0) (cap:=l) (Z4 _) (ZY _) (by simp only[maxLen];omega) Ze))
 rw[t]at x y ⊢;go_loopw [3,4,5] (fun v s q wr=>∃(i:Nat) (A:X_) (c:Nat),i≤l∧q=.int .i64 ((i:Int)+1)∧s=.int .i64 (Xr l i:Int)∧v=.slice A i c∧Hid (wr.ownsRow G 3 1 (A,i,c) i (Z2q l i))∧Hid (Below G w wr)) (fun _ _ q _=>l+1-(intOf q).toNat)
 ·exact⟨0,_,_,Y,rfl,rfl,rfl,Z y,Z x⟩
 ·obtain⟨i,A,c,a0,rfl,rfl,rfl,f,g⟩:=hrel;have M:=Z7i l a i Y;have a1:i*50000000≤64*50000000:=Z08 _ Y;obtain⟨s,h⟩:=Zb (Xr l i);rw[h]at M ⊢;by_cases a2:i<l
  ·have a3:(i:Int)+1≤(l:Int):=Y;have N:=Zbc l a.2 (i+1) Y a.1 Y;obtain⟨q,b⟩:=Zb (wgt l (i+1));have z:Xr l (i+1)=s+q:=(by rw[Xr,h,b]);rw[b]at N;have a4:=g.size;have B:=Z z;have O:=Z b;clear h z b;have P:G≤wr:=Zc t.out;have C:=Zdu l (i+1) wr a Y;rw[O]at C;go_wp2_with fail;refine(show Calls prog 291 #[(l:Int),.int .i64 ((i:Int)+1)] wr _ from C).mono ?_;rintro e w2 ⟨rfl,rfl⟩;go_wp2_with (at_builtin;go_must (refine Y5 rfl (.tmp 24) (.tmp 26) 22 rfl G 3 k Nat 1 8 underlying22 m o p r rfl Y (A,i,c) i (Z2q l i) rfl (f.alloc _) _ _ 1 1 _ rfl (Sl.fresh _ _ _ _ 1 rfl) (by simp[Value.oneCell']) (i+1) rfl _ rfl Y Y Zx ?_);intro D E F H I _)
   have Q:Below G w F:=Y9 (g.alloc P _) (f.alloc _) I (Z4 _) Zx;have R:F.ownsRow G 3 1 (D,(i+1),E) (i+1) (Z2q l (i+1)):=(by rw[ZeR,B];exact H);clear H I;go_roundw;·exact⟨i+1,D,E,Y,Zg,by rw[B];go_num,rfl,R,Q⟩
   ·exact Zh
  ·have S:i=l:=Y;subst S;have g9:¬(i:Int)+1≤(i:Int):=Y;have J:=f.out;rw[Zf_]at J;go_wp2;go_ret;exact⟨A,c,rfl,J,g⟩
theorem Z3B (t:List Nat)(k:Nat)(h:k<t.length):(t.map ZM)[k]? =some (.int .i64 ((t.getD k 0:Nat):Int)):=by rw[ZO,Z6,Z7 h];rfl
theorem ZhR {t:List Nat}(a:¬t.getD (t.length-1) 0≤n)(b:m<t.length)(c:n<t.getD m 0)(d:∀j,j<m→¬n<t.getD j 0):Vk t n=m+1:=by
 unfold Vk;rw[if_neg a];have:(List.range t.length).find? (fun m=>decide (n<t.getD m 0))=some m:=by rw[List.find?_range_eq_some];exact⟨decide_eq_true c,Ws.2 b,fun j e=>by rw[decide_eq_false (d j e)];rfl⟩
 rw[this];rfl
theorem ZcB (B:Nat)(A:X_)(n c:Nat)(t:List Nat)(x:Nat)(w:U1)(h:Sl w B 1 A n (t.map ZM))(W:0<n∧n≤64)(s:x<t.getD (n-1) 0)(O:t.getD (n-1) 0≤3200000000)(d:Nat)(v:Vk t x=d):
  Calls prog 289 #[(A,n,c),(x:Int)] w fun e P=>e=.returned (d:Int)∧w=P:=by
 have C:t.length=n:=by have:=h.len;simpa using this
 obtain⟨b,o,Q,a0,D⟩:=h.get (show n-1<n from Y) (Z3B t (n-1) Y);subst Q;obtain⟨y,f⟩:=Zb (t.getD (n-1) 0);rw[f]at D s O;have E:=Z f;have R:=Z v;have H:=h;have g:=Z C;have S:(n:Int)-1=((n-1:Nat):Int):=Y;have g1:((n:Int)==0)=false:=by rw[beq_eq_false_iff_ne];omega
 have g2:¬(x:Int)<0:=Y;have g3:¬(y:Int)≤(x:Int):=Y;obtain⟨F,l⟩:∃q,n-1=q:=⟨_,rfl⟩;rw[l]at D S;have a1:F<n:=Y;have a2:(F:Int)<(n:Int):=Y;have G:=Z l;clear f v h C l;go_enter func289,ntmps289;go_wp2;go_loop [26] (fun i=>∃k:Nat,k≤n∧i=.int .i64 (k:Int)∧Hid (∀j,j<k→¬x<t.getD j 0)) (fun i=>n-(intOf i).toNat)
 ·exact⟨0,Y,rfl,Z fun j I=>absurd I Y⟩
 ·obtain⟨k,hk,rfl,m⟩:=hrel;by_cases p:k<n
  ·have a3:(k:Int)<(n:Int):=Y;obtain⟨b2,o2,a,_,T⟩:=H.get p (Z3B t k (by rw[g];exact p));injection a with a;injection a with a U _;subst a U;obtain⟨z,r⟩:=Zb (t.getD k 0);rw[r]at T;have J:=Z r;clear r;by_cases L:x<z;·have V:(x:Int)<(z:Int):=Y;have M:Vk t x=k+1:=ZhR (by rw[g,G,←G,E];omega) (by rw[g];exact p) (by rw[J];exact L) m;have a4:d=k+1:=(by rw[←R,M]);clear M;go_wp2;go_ret;exact⟨YP Y,rfl⟩
   ·have V:¬(x:Int)<(z:Int):=Y;go_wp2;go_round
    ·exact⟨k+1,Y,Zg,Z fun j I=>(by
     rcases Yf j k with N|N;·exact m j N
     ·have:j=k:=Y;rw[this,J];exact L)⟩
    ·exact Zh
  ·exfalso;have:=m (n-1) Y;rw[E]at this;exact this s
theorem Zfi (g a l B:Nat)(A:X_)(c:Nat)(w:U1)(C:Dw w g a)(M:a<18446744073709551616)(h:Sl w B 1 A l ((X7 l).map ZM))(m:1≤l∧l≤64)(N:∀b o,A=some ⟨b,o,none⟩→b≠g)(n:0<Xr l l):
  Calls prog 227 #[(A,l,c),(g,())] w fun e D=>e=.returned (.int .i64 (Vk (X7 l) (XH (Yd a) % Xr l l):Int))∧Dw D g (Yd a)∧Only (fun q=>q=g) w D:=by
 have a2:(X7 l).length=l:=by simp[X7]
 have f:(X7 l).getD (l-1) 0=Xr l l:=by unfold X7;rw[Z6,ZO,Vt Y];simp only[Z0p,Yz];rw[show l-1+1=l from Y]
 obtain⟨b,o,O,a3,i⟩:=h.get (show l-1<l from Y) (Z3B (X7 l) (l-1) Y);subst O;rw[f]at i;have p:=Z7i l m l m.2;obtain⟨d,k⟩:=Zb (Vk (X7 l) (XH (Yd a) % Xr l l));rw[k];obtain⟨y,E⟩:=Zb (Xr l l);rw[E]at i p n k f;have P:y≤3200000000:=Zj p (Z08 50000000 m.2);have F:XH (Yd a) % y<y:=Vv _ n;have Q:=Z C;have H:=Z h;have R:=Z k;have G:=Z f;have S:=N b o rfl;have T:b<w:=block_lt_of_cell i;have U:(l:Int)-1=((l-1:Nat):Int):=Y;obtain⟨I,r⟩:∃q,l-1=q:=⟨_,rfl⟩;rw[r]at i U;have a4:I<l:=Y;have a5:(I:Int)<(l:Int):=Y;have g1:((l:Int)==0)=false:=by rw[beq_eq_false_iff_ne];omega
 have a6:=Z r;clear C h k f r E p;go_enter func227,ntmps227;go_wp2_with fail;refine(Z8q g a y _ Q M n Y).mono ?_;rintro e s ⟨rfl,V,t⟩;obtain⟨x,v⟩:=Zb (XH (Yd a) % y);rw[v]at F ⊢;have W:=Z v;have J:Sl s s 1 (some ⟨b,o,none⟩) l ((X7 l).map ZM):=by have L:=H.out;refine⟨L.len,fun hp=>?_⟩;obtain⟨b',o',z,a7,a0⟩:=L.at_ hp;injection z with z;injection z with e1 e2 _;subst e1 e2;exact⟨b,o,rfl,Zc t.size,fun j u hu=>by have h1:=a0 j u hu;have h2:=t.block b T S;rw[←h1];simp only[World.cell?,h2]⟩
 have a1:=Z J;clear J v;go_wp2_with fail;refine(ZcB s (some ⟨b,o,none⟩) l c (X7 l) x _ a1 Y (by rw[G];exact F) (by rw[G];exact P) d (by rw[←W];exact R)).mono ?_;rintro e w2 ⟨rfl,rfl⟩;go_wp2;go_ret;exact⟨rfl,V,t⟩
theorem Zcm (x:Byte)(b:Bool)(w:U1)(a:decide (x≠0)=b):Calls prog 314 #[Za x] w fun e c=>e=.returned (.bool b)∧w=c:=by
 have d:=Z a;have g:=x.isLt;unfold Za;go_enter func314,ntmps314;go_wp2;go_ret;exact⟨Xu (by
  rw[←d];by_cases h:x=0;·subst h;rfl
  ·have f:¬(x.toNat:Int)=0:=fun e=>h ((Z1n x).1 e);rw[decide_eq_true (show x≠0 from h)];exact bne_iff_ne.2 f),rfl⟩
theorem Zb_ (B:Nat)(A:X_)(n c:Nat)(l:Y_)(w:U1)(h:Sl w B 1 A n (l.map Za))(f:∀k,k<n→l.getD k 0=0)(s:n≤1048576):
  Calls prog 313 #[(A,n,c),.func (Fn.func 314) #[] #[]] w fun e d=>e=.returned (.int .i64 (-1))∧w=d:=by
 have H:=h;have g:=Z f;have j:l.length=n:=by have:=h.len;simpa using this
 have m:=Z j;go_enter func313,ntmps313;go_wp2;go_loop [8] (fun i=>∃k:Nat,k≤n∧i=.int .i64 (k:Int)) (fun i=>n-(intOf i).toNat)
 ·exact⟨0,ZY _,rfl⟩
 ·obtain⟨k,t,rfl⟩:=hrel;by_cases a:k<n
  ·have v:(k:Int)<(n:Int):=Y;obtain⟨b,o,p,_,q⟩:=H.get a (XF l k (m ▸ a));subst p;rw[g k a]at q;go_wp2_with fail;refine(Zcm 0 false _ Z5).mono ?_;rintro e d ⟨rfl,rfl⟩;go_wp2;go_round;·exact⟨k+1,Y,Zg⟩
   ·exact Zh
  ·have r:k=n:=Y;subst r;go_wp2;go_ret;exact⟨rfl,rfl⟩
theorem Zh0 (B:Nat)(A:X_)(n c:Nat)(l:Y_)(w:U1)(h:Sl w B 1 A n (l.map Za))(b:∀k,k<n→l.getD k 0=0)(d:n≤1048576):
  Calls prog 254 #[(A,n,c)] w fun e a=>e=.returned (.int .i64 (-1))∧w=a:=by
 go_enter func254,ntmps254;go_wp2_with fail;refine(Zb_ B A n c l _ h b d).mono ?_;rintro e a ⟨rfl,rfl⟩;go_wp2;go_ret;exact⟨rfl,rfl⟩
section
open Go.Shelf
def ZbE:Go.Shelf.Ren:=⟨fun|31=>46|29=>101|n=>n,fun|22=>22|23=>3|4=>4|3=>3|0=>0|n=>n,fun|n=>n⟩
theorem Z8P:Go.Proofs.SlLaysN.n31 prog ZbE:={
 mixed:=Zi
 f29:=⟨f101.name,Z5,func101.trans (congrArg some Zi)⟩
 f31:=⟨f46.name,Z5,func46.trans (congrArg some Zi)⟩
 t0:=underlying0
 a0:=isAgg0
 z0:=sizeOf0
 v0:=zeroValue0
 t3:=underlying3
 a3:=isAgg3
 z3:=sizeOf3
 v3:=zeroValue3
 t4:=underlying4
 a4:=isAgg4
 z4:=sizeOf4
 v4:=zeroValue4
 t22:=underlying22
 a22:=isAgg22
 z22:=sizeOf22
 v22:=zeroValue22
 t23:=underlying3
 a23:=isAgg3
 z23:=sizeOf3
 v23:=zeroValue3}
def ZbQ:Go.Shelf.Ren:=⟨fun|43=>190|n=>n,fun|22=>22|23=>3|3=>3|4=>4|0=>0|n=>n,fun|n=>n⟩
theorem Z9u:Go.Proofs.SlLaysN.n43 prog ZbQ:={
 mixed:=Zi
 f43:=⟨f190.name,Z5,func190.trans (congrArg some Zi)⟩
 t0:=underlying0
 a0:=isAgg0
 z0:=sizeOf0
 v0:=zeroValue0
 t3:=underlying3
 a3:=isAgg3
 z3:=sizeOf3
 v3:=zeroValue3
 t4:=underlying4
 a4:=isAgg4
 z4:=sizeOf4
 v4:=zeroValue4
 t22:=underlying22
 a22:=isAgg22
 z22:=sizeOf22
 v22:=zeroValue22
 t23:=underlying3
 a23:=isAgg3
 z23:=sizeOf3
 v23:=zeroValue3
 i23:=by kernel_rfl}
