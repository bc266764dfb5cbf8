/- SPutA -/
import Derived.Test.YtpokipdpjhookaaGreatDoorBTopRetires36
set_option maxHeartbeats 8000000
set_option maxRecDepth 20000
set_option linter.all false
namespace Go.Proofs
open Go Go.RowKit Tryz
variable {n:Nat}
def Z4i (m:Zd) (a:Y_) (n:Nat):Prop:=Z0l a=true∧(∀x∈m.objs,x.name≠a)∧(n:Int)≤m.P.K*m.P.S*8∧m.objs.length<12∧m.next≤16777215∧m.seq<2147483647
theorem ZbM (j H:Nat)(I:Nat→Nat)(F:Nat→U0)(l:Nat→Option Dr)(m:Zd)(J L:X_)(a M no N:Nat)(O:Z_)(d:Y_)(A:X_)(n c:Nat)(w:U1)
  (h:SM w j H I F Pw.new l m J a M L no N O) (hl:Z1Q l m.drives) (a0:m.may=true) (aC:a≠0) (am:d.length≤1048576) (hn:n≤1048576):
  Calls prog 80 #[(j,()),.string (Zn d),(A,n,c)] w fun e p=>∃er:Int,e=.returned er∧(er=0↔Z4i m d n)∧Below w w p:=by
 have a1:=Z0e a0;have aD:a≤64:=by rw[←h.mani.now.dl];exact a1.1
 have a2:=h.mani.now.o.len;have aE:no≤12:=by rw[←a2];exact a1.2
 have a3:=Z a2;have q:=Z h;have HL:=Z hl;have hP:=Zf.may_ok (Yo a0).P;obtain⟨ok,a8⟩:∃b,Z0l d=b:=⟨_,rfl⟩;have a4:=Z a8;clear h hl a8 a0 a1 a2;go_enter func80,ntmps80;go_wp2_with fail;refine(Z53 j H I F Pw.new l m J L a M no N O w q rfl).mono ?_;rintro e w1 ⟨rfl,a9⟩;have aa:=Z a9;clear a9;go_wp2_with fail;refine(Z9y d ok w1 am a4).mono ?_;rintro e w2 ⟨rfl,ab⟩;have an:=aa.size;have Q:=Z (aa.trans (ab.mono an));clear ab;cases ok with
 |false=>go_wp2;go_ret;exact⟨3,rfl,⟨fun h=>absurd h Z5,fun h=>absurd (a4.symm.trans h.1) Z5⟩,Q⟩
 |true=>
 go_wp2_with fail;refine(Z8N d j H I F Pw.new l m J L a M no N O w2 (q.new_ Q) Y).mono ?_;rintro e f ⟨he,ac⟩;have ao:=Q.size;have R:=Z (Q.trans (ac.mono ao));clear ac;rcases he with ⟨i,rfl,ad,ae⟩|⟨rfl,af⟩;·have HI:=Z (show ¬∀x∈m.objs,x.name≠d from fun h=>h _ (by rw[Z6,Z7 (by rw[a3];exact ad)];exact Zp _) ae);clear ad ae;have aF:(0:Int)≤(i:Int):=Y;go_wp2;go_ret;exact⟨4,rfl,⟨fun h=>absurd h Z5,fun h=>(HI h.2.1).elim⟩,R⟩
 have ap:=Z af;clear af;have ag:=Z (q.new_ R);have g:=Z ag.cells.1;have r:=ag.row.lt;obtain⟨T,a5⟩:∃k:Nat,m.P.K*m.P.S=(k:Int):=⟨(m.P.K*m.P.S).toNat,by have:=Zf.size_le hP;unfold Zf.size at this;omega⟩;have aG:T≤384:=by have:=(Zf.size_le hP).2;unfold Zf.size at this;omega
 have ah:=Z a5;have aq:IntKind.i64.wrap (m.P.K*m.P.S)=(T:Int):=by rw[a5];simp[IntKind.wrap,IntKind.bits,IntKind.signed];omega
 obtain⟨s,a6⟩:∃k:Nat,T*8=k:=⟨_,rfl⟩;have ar:IntKind.i64.wrap ((T:Int)*8)=(s:Int):=by rw[←a6];simp[IntKind.wrap,IntKind.bits,IntKind.signed];omega
 have ai:=Z a6;clear a5 hP a6;go_upto_region 7 with fail;go_cut [19] (fun av wy=>∃b:Bool,av=.bool b∧(b=false↔(n:Int)≤s∧no<12)∧Hid (Below f f wy))
 ·by_cases aj:(s:Int)<n;·have aw:decide ((s:Int)<n)=true:=decide_eq_true aj;refine oS [] (fun p=>Below f f p) [0,1,2,3,4,5,6,7,8,9,10,11,12,13,14,15,16,17,18,19,20,21,22,23,24,25,26] (bq_ (Z8 _ _) 1) fun hS=>?_;(iterate 7 refine oV ?_);refine oC (y:=fun w hSw=>by obtain⟨t,v,z,B,C,D,E,G⟩:=g.keep hSw r;exact Y4) (h:= ?_);(iterate 5 refine oV ?_);refine oC (y:=fun w hSw=>by obtain⟨t,v,z,B,C,D,E,G⟩:=g.keep hSw r;exact Y4) (h:= ?_);(iterate 4 refine oV ?_);refine oN ?_;refine oN ?_;refine oN ?_;refine oN ?_;refine oN ?_;refine oN ?_;refine oN ?_;refine oV ?_;refine oV ?_;refine oD ?_;go_wp2;go_meet;exact⟨true,rfl,⟨fun h=>absurd h Z5,fun h=>Y⟩,Z hS⟩
  ·have aw:decide ((s:Int)<n)=false:=decide_eq_false aj;refine oS [] (fun p=>Below f f p) [0,1,2,3,4,5,6,7,8,9,10,11,12,13,14,15,16,17,18,19,20,21,22,23,24,25,26] (bq_ (Z8 _ _) 1) fun hS=>?_;(iterate 7 refine oV ?_);refine oC (y:=fun w hSw=>by obtain⟨t,v,z,B,C,D,E,G⟩:=g.keep hSw r;exact Y4) (h:= ?_);(iterate 5 refine oV ?_);refine oC (y:=fun w hSw=>by obtain⟨t,v,z,B,C,D,E,G⟩:=g.keep hSw r;exact Y4) (h:= ?_);(iterate 8 refine oV ?_);refine oC (y:=fun w hSw=>by obtain⟨t,v,z,B,C,D,E,G⟩:=g.keep hSw r;exact Y4) (h:= ?_);(iterate 4 refine oV ?_);refine oD ?_;go_wp2;go_meet;exact⟨_,rfl,⟨fun h=>⟨Y,Zc (of_decide_eq_false h)⟩,fun h=>decide_eq_false Y⟩,Z hS⟩
 case rest=>
 obtain⟨b,rfl,U,ak⟩:=hcut;generalize wc=w4 at*;have ax:=R.size;have a7:=Z (R.trans (ak.mono ax));have aH:=ak.size;clear aq ar g;cases b with
 |true=>have V:=Z U;clear U;go_wp2;go_ret;exact⟨6,rfl,⟨fun h=>absurd h Z5,fun h=>absurd (V.2 ⟨by have:=h.2.2.1;rw[ah]at this;have:=ai.out;omega,by rw[←a3];exact h.2.2.2.1⟩) Z5⟩,a7⟩
 |false=>
 have V:=Z (U.1 rfl);clear U;go_wp2_with fail;refine(Z1C j H I F Pw.new l m J L a M no N O w4 (q.new_ a7) HL Y).mono ?_;rintro e w5 ⟨Al,cl,rfl,-,al⟩;have W:=Z (a7.trans (al.mono (show w.heap.size≤w4.heap.size from Y)));clear al;obtain⟨t,v,z,B,C,D,E,G⟩:=(q.new_ W).cells.1;have ay:¬(a:Int)=0:=Y;by_cases az:16777215<m.next;·go_wp2;go_ret;exact⟨7,rfl,⟨fun h=>absurd h Z5,fun h=>Zc h.2.2.2.2.1⟩,W⟩
 by_cases aB:2147483647≤m.seq;·go_wp2;go_ret;exact⟨7,rfl,⟨fun h=>absurd h Z5,fun h=>Zc h.2.2.2.2.2⟩,W⟩
 have aI:decide ((a:Int)=0)=false:=decide_eq_false ay;have aJ:decide (16777215<m.next)=false:=decide_eq_false az;have aK:decide (2147483647≤m.seq)=false:=decide_eq_false aB;go_wp2;go_ret;exact⟨0,rfl,⟨fun _=>⟨a4,ap,by have:=V.1;have:=ai.out;rw[ah];omega,by rw[a3];exact V.2,Y,Y⟩,fun _=>rfl⟩,W⟩
theorem Z5N (q:List (Nat×Y_))(s:Nat):(ZQ q s).length≤q.length:=by unfold ZQ;rw[Zz];exact Wx _ _
theorem ZbV {q:List (Nat×Y_)}(a:n<q.length)(s:Nat):(ZQ (q.take (n+1)) s).length=(ZQ (q.take n) s).length+if s=q[n].1 then 1 else 0:=by rw[ZR a,Z7Q,Zw];split <;> simp
theorem ZgG (p r s d:Nat)(A:X_)(n c:Nat)(q:List ((Nat×Y_)×U2))(w:U1)(D:Row w p 3 [(d:Int)])(E:Row w r 102 [(A,n,c)])(t:RSy w w A n q)(R:n≤100000)(S:d≤100000):
  Calls prog 85 #[(s:Int),(p,()),(r,())] w fun e F=>e=.returned (.int .i64 ((d+(ZQ (q.map Prod.fst) s).length:Nat):Int))∧Below w w F:=by
 have G:=D.cell 0;have H:=E.cell 0;simp only[ZE]at G H;have x:=t;have j:=Z t.len;go_enter func85,ntmps85;go_wp2;go_loopw [5,11] (fun I l wr=>∃k a:Nat,I=.int .i64 (a:Int)∧k≤n∧l=.int .i64 (k:Int)∧Hid (a=d+(ZQ ((q.map Prod.fst).take k) s).length∧a≤d+k)∧Hid (Below w w wr)) (fun _ l _=>n-(intOf l).toNat)
 ·exact⟨0,d,rfl,Y,rfl,Z ⟨by simp[ZQ],Y⟩,Z (Z8 _ _)⟩
 ·obtain⟨k,a,rfl,T,rfl,f,g⟩:=hrel;have z:=g.size;by_cases m:k<n
  ·have U:(k:Int)<(n:Int):=Y;obtain⟨b,o,y,e,h,J,L,M⟩:=(x.below g).get m;obtain⟨V,W,N,-⟩:=(x.below g).at_ y J;rw[N]at M;subst e;have O:k<(q.map Prod.fst).length:=(by rw[Zz,j];exact m);have P:(q.map Prod.fst)[k]=y.1:=(by rw[List.getElem_map];rw[Z7 (j ▸ m)]at h;injection h with h;rw[h]);have i:=Z (ZbV O s);rw[P]at i;have a0:a≤200000:=Zc f.2;obtain⟨B,Q⟩:∃v,y.1.1=v:=⟨_,rfl⟩;rw[Q]at L i;by_cases C:B=s
   ·subst C;go_wp2;go_roundw;·exact⟨k+1,a+1,Zg,Y,Zg,Z ⟨by rw[i,if_pos rfl,f.1];omega,Zc f.2⟩,Z (g.trans (((Z8 _ _).alloc (Z4 _) _).mono z))⟩
    ·exact Zh
   ·have a1:¬((B:Int)=s):=Y;go_wp2;go_roundw;·exact⟨k+1,a,rfl,Y,Zg,Z ⟨by rw[i,if_neg (fun e=>C e.symm),f.1];omega,Zc f.2⟩,Z (g.trans (((Z8 _ _).alloc (Z4 _) _).mono z))⟩
    ·exact Zh
  ·obtain rfl:k=n:=Y;go_wp2;go_ret;refine⟨YP (by rw[f.1,ZP (by rw[Zz,j];exact Z4 _)]),g⟩
