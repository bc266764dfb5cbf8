/- PageLaw PageTake RefPage PageMem PageBump -/
import Derived.BigGuardPart
import Derived.Deep.DeepCutAuto
import Derived.Test.YtnknjeipfjdjoaaGreatDoorBScanTells06
import Derived.Test.YtnknjeipfjdjoaaGreatDoorBScanTells16
import Derived.Test.YtnknjeipfjdjoaaGreatDoorBScanTells20
import Derived.Test.YtnknjeipfjdjoaaGreatDoorBScanTells30
set_option maxHeartbeats 8000000
set_option maxRecDepth 20000
set_option linter.unusedSimpArgs false
set_option linter.unusedVariables false
set_option linter.unusedSectionVars false
namespace Wells
open Go Go.RowKit
structure Pg where
 seq:Int
 at_:Int
 of_:Int
 bears:List Byte
 cell:List Byte
deriving DecidableEq
instance:Inhabited Pg:=⟨⟨0,0,0, [], []⟩⟩
def pgOf (x c:List Byte):Pg:=⟨numL (x.take 4),byteI x 4,byteI x 5,(x.drop 7).take (byteI x 6).toNat,c⟩
def noughts (l:List Byte):Bool:=l.all fun b=>b==0#8
def tkPage (c:List Byte):Option Pg:=
 match takeP c with
 | some (k,x)=>if k=2#8∧byteI x 6≤48∧noughts (x.drop (7+(byteI x 6).toNat))=true then some (pgOf x c) else none
 | none=>none
theorem Zz3a {c:List Byte} {p:Pg} (h:tkPage c=some p):p.cell=c∧0≤p.at_∧0≤p.of_∧p.of_≤255∧p.bears.length≤48∧0≤p.seq∧p.seq < 4294967296∧p.at_≤255:=by
 unfold tkPage at h;split at h
 ·rename_i k x _
  split at h
  ·rename_i hc
   injection h with h;subst h;refine ⟨rfl,?_,?_,?_,?_,?_,?_,?_⟩
   ·show 0≤byteI x 4;unfold byteI;omega
   ·show 0≤byteI x 5;unfold byteI;omega
   ·show byteI x 5≤255;unfold byteI;have:=(x.getD 5 0).isLt;omega
   ·show ((x.drop 7).take (byteI x 6).toNat).length≤48
    rw [List.length_take];have:=hc.2.1;omega
   ·exact (Zz0w _).1
   ·have h1:=(Zz0w (x.take 4)).2
    have h2:(256:Int) ^ (x.take 4).length≤256 ^ 4:=by
     have:(x.take 4).length≤4:=by simp;omega
     have h3:(256:Nat) ^ (x.take 4).length≤256 ^ 4:=Nat.pow_le_pow_right (by omega) this;exact_mod_cast h3
    show numL (x.take 4) < 4294967296;omega
   ·show byteI x 4≤255;unfold byteI;have:=(x.getD 4 0).isLt;omega
  ·cases h
 ·cases h
theorem Zz56 (a b:List Byte) (i:Nat):byteI (a++b) (a.length+i)=byteI b i:=by
 unfold byteI;rw [ZgD,List.getElem?_append_right (by omega),Nat.add_sub_cancel_left,ZgD]
theorem Zzhf {x:Int} (h:0≤x∧x < 256):((hiB x 0).toNat:Int)=x:=by rw [Zz0p];simp;omega
theorem Zz5l (q k t:Int) (n:Nat):(pageH q k t n).length=7:=by unfold pageH;simp [Zz0r]
theorem Zzft {q:Int} {p:List Byte} {j:Nat} (hq:0≤q∧q < 4294967296) (hN:pageN p≤255) (hj:j < pageN p):tkPage (pageC q p j)=some ⟨q,j,pageN p,pageD p j,pageC q p j⟩:=by
 have hd:=Zz3g p j;have hd48:(pageD p j).length≤48:=by omega
 obtain ⟨body,hb⟩:∃ b,pageH q j (pageN p) (pageD p j).length++pageD p j=b:=⟨_,rfl⟩;have hbl:body.length=7+(pageD p j).length:=by rw [← hb,List.length_append,Zz5l]
 have hbp:∀ i,i < body.length→byteI (pad body) i=byteI body i:=fun i hi=>by
  unfold byteI pad;rw [ZgD,List.getElem?_append_left hi,ZgD]
 have e3:∀ i,byteI (highL 4 q++i) 4=byteI i 0:=fun i=>by
  have:=Zz56 (highL 4 q) i 0;rwa [Zz0r] at this
 have e4:∀ i,byteI (highL 4 q++i) 5=byteI i 1:=fun i=>by
  have:=Zz56 (highL 4 q) i 1;rwa [Zz0r] at this
 have e5:∀ i,byteI (highL 4 q++i) 6=byteI i 2:=fun i=>by
  have:=Zz56 (highL 4 q) i 2;rwa [Zz0r] at this
 have hbe:body=highL 4 q++(hiB (j:Int) 0::hiB (pageN p:Int) 0::hiB ((pageD p j).length:Int) 0::pageD p j):=by rw [← hb];simp [pageH]
 have b4:byteI (pad body) 4=(j:Int):=by rw [hbp 4 (by omega),hbe,e3];exact Zzhf (x:=(j:Int)) (by omega)
 have b5:byteI (pad body) 5=(pageN p:Int):=by rw [hbp 5 (by omega),hbe,e4];exact Zzhf (x:=(pageN p:Int)) (by omega)
 have b6:byteI (pad body) 6=((pageD p j).length:Int):=by rw [hbp 6 (by omega),hbe,e5];exact Zzhf (x:=((pageD p j).length:Int)) (by omega)
 have ht:takeP (pageC q p j)=some (2#8,pad body):=by
  unfold pageC;rw [hb,Zz29 ⟨by omega,by omega,by omega⟩];exact Zzbk (by decide) (by omega)
 unfold tkPage;rw [ht];dsimp only;have hdr:(pad body).drop 7=pageD p j++List.replicate (55 - body.length) 0#8:=by
  unfold pad;rw [← hb,List.append_assoc,List.drop_append_of_le_length (by rw [Zz5l];omega),List.drop_eq_nil_of_le (by rw [Zz5l];omega),List.nil_append]
 rw [if_pos]
 ·congr 1
  unfold pgOf;rw [b4,b5,b6];have h4:numL ((pad body).take 4)=q:=by
   unfold pad;rw [hbe,List.append_assoc,List.take_append_of_le_length (by rw [Zz0r];omega),ZtL (by rw [Zz0r];omega)];exact Zz6o q hq
  rw [h4,hdr];congr 1
  rw [Int.toNat_natCast,List.take_append_of_le_length (ZnR _),List.take_length]
 ·refine ⟨rfl,by rw [b6];omega,?_⟩
  rw [b6,Int.toNat_natCast,← List.drop_drop,hdr,List.drop_append_of_le_length (ZnR _),List.drop_length,List.nil_append];unfold noughts;simp
/-! ### gathering -/
def pgIs (p:Pg) (n:Nat) (q:Pg):Bool:=decide (q.seq=p.seq) && (decide (q.of_=p.of_) && decide (q.at_=(n:Int)))
def docG (l:List Pg) (p:Pg):Nat→List Pg
 | 0=> [p]
 | k+1=>docG l p k++(l.find? (pgIs p (k+1))).toList
theorem Zzd6 (l:List Pg) (p:Pg):∀ k,(docG l p k).length≤k+1
 | 0=>by simp [docG]
 | k+1=>by
  have:=Zzd6 l p k
  unfold docG;rw [List.length_append];cases l.find? (pgIs p (k+1)) <;> simp <;> omega
theorem Zz6m {l:List Pg} {p:Pg} {k:Nat} (h:(docG l p k).length < k+1):∀ j,k≤j→(docG l p j).length < j+1:=by
 intro j hj;induction j with
 | zero=>
  obtain rfl:k=0:=by omega
  exact h
 | succ j ih=>
  by_cases e:k=j+1
  ·subst e;exact h
  ·have:=ih (by omega)
   unfold docG;rw [List.length_append];cases l.find? (pgIs p (j+1)) <;> simp <;> omega
def gatherL (l:List Pg) (f:Pg):Option (List Pg):=if 0 < f.of_∧(docG l f (f.of_ - 1).toNat).length=f.of_.toNat then some (docG l f (f.of_ - 1).toNat) else none
def wholeL (s:List Pg):Option Mani:=
 match parseL (s.flatMap Pg.bears) with
 | some m=>if pagesL m.seq (pack m)=s.map Pg.cell then some m else none
 | none=>none
theorem Zz4r {s:List Pg} {m:Mani} (h:wholeL s=some m):m.may=true∧s.flatMap Pg.bears=pack m∧pagesL m.seq (pack m)=s.map Pg.cell:=by
 unfold wholeL at h;split at h
 ·rename_i m' hp
  split at h
  ·rename_i hc
   injection h with h;subst h;exact ⟨(Zz30 hp).2,(Zz30 hp).1,hc⟩
  ·cases h
 ·cases h
theorem Zzfy {m:Mani} (h:m.may=true):pack m≠ []:=by
 unfold pack;rw [if_pos h];exact Zzcv m
theorem Zz7y {p:List Byte} (h:p≠ []):0 < pageN p:=by
 have:0 < p.length:=List.length_pos_iff.2 h
 unfold pageN;omega
theorem Zzfe {m:Mani} (h:m.may=true):1≤m.seq∧m.seq≤2147483647:=by
 unfold Mani.may preB at h;simp only [Bool.and_eq_true,decide_eq_true_eq] at h;exact h.1.1
theorem Zz93 (l:List Pg) (p:Pg):∀ k,∃ r,docG l p k=p::r
 | 0=>⟨[],rfl⟩
 | k+1=>by
  obtain ⟨r,hr⟩:=Zz93 l p k;exact ⟨_,by unfold docG;rw [hr];rfl⟩
theorem Zz7t {l:List Pg} {x:Pg} (hx:tkPage x.cell=some x) (hN:∀ m:Mani,m.may=true→pageN (pack m)≤255):wholeL (docG l x (x.of_ - 1).toNat)=(gatherL l x).bind wholeL:=by
 by_cases hg:0 < x.of_∧(docG l x (x.of_ - 1).toNat).length=x.of_.toNat
 ·unfold gatherL;rw [if_pos hg,Option.bind_some]
 ·have e:gatherL l x=none:=if_neg hg
  rw [e];cases hw:wholeL (docG l x (x.of_ - 1).toNat) with
  | none=>rfl
  | some m=>
   exfalso
   obtain ⟨h1,h2,h3⟩:=Zz4r hw;have hp:=Zz7y (Zzfy h1);have hn:=hN m h1;obtain ⟨r,hr⟩:=Zz93 l x (x.of_ - 1).toNat;have hlen:=congrArg List.length h3;rw [Zz0n,List.length_map] at hlen;have hc:x.cell=pageC m.seq (pack m) 0:=by
    rw [hr] at h3;have h4:=congrArg (fun l=>l[0]?) h3;simp only [List.map_cons,ZgZ] at h4;unfold pagesL at h4;rw [List.getElem?_map,List.getElem?_range (by omega)] at h4;simpa using h4.symm
   have hs:=Zzfe h1;have ht:=Zzft (q:=m.seq) (p:=pack m) (j:=0) (by omega) hn hp;rw [← hc,hx] at ht;injection ht with ht;have ho:x.of_=(pageN (pack m):Int):=by rw [ht]
   exact hg ⟨by omega,by omega⟩
/-! ### the manifests of cells -/
def ltM (a b:Mani):Bool:=decide (b.seq < a.seq)
theorem ltM_ord:SOrd ltM:=by
 unfold ltM;constructor <;> intros <;> simp_all <;> omega
def dedup (l:List Mani):List Mani:=l.foldl (fun acc m=>if m∈acc then acc else acc++ [m]) []
def pagesOf (l:List (List Byte)):List Pg:=l.filterMap tkPage
def told (pages:List Pg) (x:Pg):Option Mani:=if x.at_=0 then (gatherL pages x).bind wholeL else none
def joinL (l:List (List Byte)):List Mani:=ssort ltM (dedup ((pagesOf l).filterMap (told (pagesOf l))))
def docStep (pages:List Pg) (out:List Mani) (c:List Byte):List Mani:=
 match tkPage c with
 | some p=>if p.at_=0 then (match wholeL (docG pages p (p.of_ - 1).toNat) with
   | some m=>if m∈out then out else ins ltM m out
   | none=>out) else out
 | none=>out
def docJ (l:List (List Byte)):List Mani:=l.foldl (docStep (pagesOf l)) []
theorem Zz1p (l:List Mani) (m:Mani):dedup (l++ [m])=if m∈dedup l then dedup l else dedup l++ [m]:=by
 unfold dedup;rw [List.foldl_append,List.foldl_cons,List.foldl_nil]
theorem Zzhb (l:List (List Byte)) (hN:∀ m:Mani,m.may=true→pageN (pack m)≤255):docJ l=joinL l:=by
 have key:∀ (P:List Pg) (l:List (List Byte)),l.foldl (docStep P) []=ssort ltM (dedup ((pagesOf l).filterMap (told P))):=by
  intro P l;induction l using Zz39 with
  | h0=>rfl
  | h1 l c ih=>
   rw [List.foldl_append,ih];simp only [List.foldl_cons,List.foldl_nil];unfold pagesOf;rw [List.filterMap_append];cases hc:tkPage c with
   | none=>simp [docStep,hc]
   | some p=>
    have hp:tkPage p.cell=some p:=by rw [(Zz3a hc).1];exact hc
    simp only [List.filterMap_cons,hc,List.filterMap_nil,List.filterMap_append];unfold docStep;rw [hc];dsimp only;by_cases h0:p.at_=0
    ·rw [if_pos h0,Zz7t hp hN]
     have ht:told P p=(gatherL P p).bind wholeL:=if_pos h0;cases hm:(gatherL P p).bind wholeL with
     | none=>rw [ht,hm];simp
     | some m=>
      rw [ht,hm];dsimp only;rw [Zz1p];by_cases hin:m∈dedup (List.filterMap (told P) (List.filterMap tkPage l))
      ·rw [if_pos (Zz2d.2 hin),if_pos hin]
      ·rw [if_neg (fun h=>hin (Zz2d.1 h)),if_neg hin,Zz1q]
    ·rw [if_neg h0]
     have ht:told P p=none:=if_neg h0;rw [ht];simp
 exact key _ l
def Pg.val (p:Pg) (dv cv:Value):Value:= .agg #[.int .i64 p.seq,.int .i64 p.at_,.int .i64 p.of_,dv,cv]
def Pg.zero:Pg:=⟨0,0,0, [], []⟩
end Wells
namespace Go.Proofs.YtnknjeipfjdjoaaGreatDoor
open Go.RowKit Wells
def TB (base:Nat) (w:World) (v:Value) (l:List Byte):Prop:=
 ∃ A c,v= .slice A l.length c∧l.length≤c∧c≤9223372036854775807∧(0 < l.length→∃ g o cur,A=some ⟨g,o,none⟩∧base≤g∧Row w g 5 cur∧(cur.drop o).take l.length=l.map bv8)
theorem TB.nil_ (base:Nat) (w:World):TB base w (.slice none 0 0) []:=⟨none,0,rfl,ZnR _,by omega,fun h=>absurd h (by simp)⟩
theorem TB.read {base:Nat} {w:World} {v:Value} {l:List Byte} (h:TB base w v l):RB w w.heap.size v l:=by
 obtain ⟨A,c,rfl,h1,h2,h3⟩:=h;refine ⟨A,c,rfl,h1,h2,by simp,fun h0=> ?_⟩;obtain ⟨g,o,cur,rfl,_,hr,ht⟩:=h3 h0;refine ⟨g,o,rfl,hr.lt,fun j u hu=> ?_⟩;rw [hr.cell];rw [← ht,List.getElem?_take] at hu;split at hu
 ·rwa [List.getElem?_drop] at hu
 ·cases hu
theorem TB.below {base:Nat} {w w':World} {v:Value} {l:List Byte} (h:TB base w v l) (hb:Below w.heap.size w w'):TB base w' v l:=by
 obtain ⟨A,c,e,h1,h2,h3⟩:=h;refine ⟨A,c,e,h1,h2,fun h0=> ?_⟩;obtain ⟨g,o,cur,hA,hg,hr,ht⟩:=h3 h0;exact ⟨g,o,cur,hA,hg,hr.below hb hr.lt,ht⟩
theorem TB.base {base base':Nat} {w:World} {v:Value} {l:List Byte} (h:TB base w v l) (hb:base'≤base):TB base' w v l:=by
 obtain ⟨A,c,e,h1,h2,h3⟩:=h;refine ⟨A,c,e,h1,h2,fun h0=> ?_⟩;obtain ⟨g,o,cur,hA,hg,hr,ht⟩:=h3 h0;exact ⟨g,o,cur,hA,by omega,hr,ht⟩
theorem Zz1i {w w':World} {g:Nat} {t t':TypeId} {cs:List Value} {row:Option Nat} (h:Row w g t cs) (hg:w.grownBy w' row) (hn:∀ k,row=some k→∃ cs',Row w k t' cs') (hne:t≠t'):Row w' g t cs:=by
 have hlt:=h.lt;refine (hg.block g hlt (fun e=> ?_)).trans h;obtain ⟨cs',hr⟩:=hn g e.symm;unfold Row at h hr;rw [h] at hr;injection hr with hr;injection hr with _ ht _;exact hne ht
theorem Zz1y {base:Nat} {w:World} {e:TypeId} {size n:Nat} {v:Value} {xs:List Value} (h:w.ownsRow base e size v n xs):∀ k,v.ownBlock=some k→∃ cs',Row w k e cs':=by
 intro k hk;rcases h.2 with ⟨rfl,_⟩ | ⟨g,cap,cur,rfl,_,hg,_⟩
 ·cases hk
 ·have:g=k:=by simpa [Value.ownBlock] using hk
  subst this;exact ⟨cur.toList,by simpa [Row] using hg⟩
theorem TB.grown {base base':Nat} {w w':World} {v u:Value} {l:List Byte} {t:TypeId} {size n:Nat} {xs:List Value} (h:TB base w v l) (ho:w.ownsRow base' t size u n xs) (hg:w.grownBy w' u.ownBlock) (hne:5≠t):TB base w' v l:=by
 obtain ⟨A,c,e,h1,h2,h3⟩:=h;refine ⟨A,c,e,h1,h2,fun h0=> ?_⟩;obtain ⟨g,o,cur,hA,hgb,hr,ht⟩:=h3 h0;exact ⟨g,o,cur,hA,hgb,Zz1i hr hg (Zz1y ho) hne,ht⟩
theorem row5 {w:World} {g:Nat} {t:TypeId} {z0 z1 z2 z3 z4:Value} (h:Row w g t [z0,z1,z2,z3,z4]) (a0 a1 a2 a3 a4:Value):Row (((((w.setCell ⟨g,0,none⟩ a0).setCell ⟨g,1,none⟩ a1).setCell ⟨g,2,none⟩ a2).setCell ⟨g,3,none⟩ a3).setCell ⟨g,4,none⟩ a4) g t [a0,a1,a2,a3,a4]:=(((((h.set 0 a0).set 1 a1).set 2 a2).set 3 a3).set 4 a4)
theorem below5 {w0 w:World} {g B:Nat} (h:Below B w0 w) (hg:B≤g) (hs:B≤w.heap.size) (a0 a1 a2 a3 a4:Value):Below B w0 (((((w.setCell ⟨g,0,none⟩ a0).setCell ⟨g,1,none⟩ a1).setCell ⟨g,2,none⟩ a2).setCell ⟨g,3,none⟩ a3).setCell ⟨g,4,none⟩ a4):=
 (Zz0e (Zz0e (Zz0e (Zz0e (Zz0e h _ _ hg (by simpa [World.setCell] using hs) _) _ _ hg (by simpa [World.setCell] using hs) _) _ _ hg (by simpa [World.setCell] using hs) _) _ _ hg (by simpa [World.setCell] using hs) _) _ _ hg (by simpa [World.setCell] using hs) _)
theorem Zz2p {w:World} {g g' i:Nat} {t:TypeId} {cs:List Value} (h:Row w g t cs) (hne:g≠g') (x:Value):Row (w.setCell ⟨g',i,none⟩ x) g t cs:=(Below.heap_setCell w ⟨g',i,none⟩ x g hne).trans h
theorem Zzgl {w:World} {g g':Nat} {t:TypeId} {cs:List Value} (h:Row w g t cs) (hne:g≠g') (a0 a1 a2 a3 a4:Value):Row (((((w.setCell ⟨g',0,none⟩ a0).setCell ⟨g',1,none⟩ a1).setCell ⟨g',2,none⟩ a2).setCell ⟨g',3,none⟩ a3).setCell ⟨g',4,none⟩ a4) g t cs:=
 Zz2p (Zz2p (Zz2p (Zz2p (Zz2p h hne _) hne _) hne _) hne _) hne _
theorem Zzd7 {base:Nat} {w:World} {A:Option Addr} {n c:Nat} {l:List Byte} (h:w.ownsRow base 5 1 (.slice A n c) n (l.map bv8)) (hn:0 < n):∃ g cur,A=some ⟨g,0,none⟩∧base≤g∧Row w g 5 cur∧cur.take n=l.map bv8:=by
 rcases h.2 with ⟨hv,h0⟩ | ⟨g,cap,cur,hv,hb,hg,_,_,_,ht⟩
 ·omega
 ·injection hv with e1 e2 e3
  exact ⟨g,cur.toList,e1,hb,by simpa [Row] using hg,by simpa using ht⟩
def PTakeR (cv:Value) (T:Option Pg) (w:World) (e:Ending) (w':World):Prop:=
 ∃ dv cv',e= .returned (.tuple #[(T.getD Pg.zero).val dv cv',.bool T.isSome])∧TB w.heap.size w' dv (T.getD Pg.zero).bears∧(T.isSome=true→cv'=cv)∧(T.isSome=false→cv'= .slice none 0 0)∧Below w.heap.size w w'
theorem Zzeh (B:Nat) (A:Option Addr) (l:List Byte) (n c:Nat) (w:World) (h:Sl w B 1 A n (l.map bv8)) (hB:B≤w.heap.size) (hn:n≤1048576) (hc:n≤c) (hc2:c≤9223372036854775807):
  Calls Tryz.prog 100 #[.slice A n c] w (PTakeR (.slice A n c) (tkPage l) w):=by
 obtain ⟨T,hT⟩:∃ T,tkPage l=T:=⟨_,rfl⟩;rw [hT];have HTT:=hid hT;have hr0:Row (w.alloc (.cells #[.int .i64 0,.int .i64 0,.int .i64 0,.slice none 0 0,.slice none 0 0] 128)) w.heap.size 128 [.int .i64 0,.int .i64 0,.int .i64 0,.slice none 0 0,.slice none 0 0]:=Row.new w 128 #[.int .i64 0,.int .i64 0,.int .i64 0,.slice none 0 0,.slice none 0 0];have hb0:Below w.heap.size w (w.alloc (.cells #[.int .i64 0,.int .i64 0,.int .i64 0,.slice none 0 0,.slice none 0 0] 128)):=(Below.refl _ _).alloc (ZnR _) _;have HS:=hid h;clear hT h;go_enter Tryz.func100,Tryz.ntmps100;go_wp2_with fail;generalize w.alloc (.cells #[.int .i64 0,.int .i64 0,.int .i64 0,.slice none 0 0,.slice none 0 0] 128)=w1 at*
 have hlt0:=hr0.lt;refine (Zzb4 B A l n c _ (HS.out.below (hb0.mono hB)) (ZnT hB hb0.size) hn hc hc2).mono ?_;rintro e w2 ⟨v,rfl,hv,hb2⟩;have hr2:=hr0.below hb2 hlt0;have hb02:=hb0.trans (hb2.mono hb0.size);have hv':OB w.heap.size w2 v ((takeP l).getD (0#8, [])).2:=Zz0b hv hb0.size;have hgv:∀ k,v.ownBlock=some k→w.heap.size < k:=fun k hk=>by have:=(Zz2q hv k hk).1;omega
 have HR2:=hid hr2;have HB2:=hid hb02;have HGV:=hid hgv;clear hr0 hb0 hb2 hr2 hb02 hv hgv hlt0;have NONE:∀ (w3:World) (g:Nat),Row w3 g 128 [.int .i64 0,.int .i64 0,.int .i64 0,.slice none 0 0,.slice none 0 0]→g=w.heap.size→Below w.heap.size w w3→True:=fun _ _ _ _ _=>trivial
 clear NONE;cases htk:takeP l with
 | none=>
  rw [htk] at hv';have hT:T=none:=by rw [← HTT.out];unfold tkPage;rw [htk]
  subst hT;obtain ⟨Ax,cx,rfl,_,_,_⟩:=hv'.read;unfold tkV;clear htk hv';have z0:=HR2.out.cell 0;have z1:=HR2.out.cell 1;have z2:=HR2.out.cell 2;have z3:=HR2.out.cell 3;have z4:=HR2.out.cell 4;simp only [ZgS,ZgZ] at z0 z1 z2 z3 z4;have y0:=HR2.out.frozen 0;have y1:=HR2.out.frozen 1;have y2:=HR2.out.frozen 2;have y3:=HR2.out.frozen 3;have y4:=HR2.out.frozen 4;go_wp2_with fail;have R5:=row5 HR2.out (.int .i64 0) (.int .i64 0) (.int .i64 0) (.slice none 0 0) (.slice none 0 0);have B5:=below5 HB2.out (ZnR _) HB2.out.size (.int .i64 0) (.int .i64 0) (.int .i64 0) (.slice none 0 0) (.slice none 0 0);have q0:=R5.cell 0;have q1:=R5.cell 1;have q2:=R5.cell 2;have q3:=R5.cell 3;have q4:=R5.cell 4
  simp only [ZgS,ZgZ] at q0 q1 q2 q3 q4;refine bodyPost_ret (v:= .tuple #[Pg.zero.val (.slice none 0 0) (.slice none 0 0),.bool false]) ?_ rfl ⟨.slice none 0 0,.slice none 0 0,?_,?_,?_,fun _=>rfl,B5⟩
  ·simp [results,Tryz.results100,go_sem,q0,q1,q2,q3,q4]
   rfl
  ·rfl
  ·exact TB.nil_ _ _
  ·intro hh;cases hh
 | some p=>
  obtain ⟨k,x⟩:=p;rw [htk] at hv';have hxl:x.length=55:=(Zz24 htk).2.1;have HXL:=hid hxl;unfold tkV;dsimp only [Option.getD,Option.isSome] at hv' ⊢;have hTif:T=if k=2#8∧byteI x 6≤48∧noughts (x.drop (7+(byteI x 6).toNat))=true then some (pgOf x l) else none:=by
   rw [← HTT.out];unfold tkPage;rw [htk]
  have HTif:=hid hTif;have hkb:=k.isLt;obtain ⟨Ax,cx,rfl,hcx1,hcx2,_⟩:=hv'.read;unfold OB at hv';rw [hxl] at hcx1 hv' ⊢;obtain ⟨gx,cur,rfl,hgx,hrx,hcur⟩:=Zzd7 hv' (by omega);have hgx2:w.heap.size < gx:=HGV.out gx rfl;have hsx:Sl w2 w2.heap.size 1 (some ⟨gx,0,none⟩) 55 (x.map bv8):=Sl.own hv';have HRX:=hid hrx;have HSX:=hid hsx;have HCUR:=hid hcur;clear htk hTif hv' hrx hsx hcur hgx;obtain ⟨b4,hb4⟩:∃ b,x.getD 4 0=b:=⟨_,rfl⟩;obtain ⟨b5,hb5⟩:∃ b,x.getD 5 0=b:=⟨_,rfl⟩;obtain ⟨b6,hb6⟩:∃ b,x.getD 6 0=b:=⟨_,rfl⟩;have e4:byteI x 4=(b4.toNat:Int):=by unfold byteI;rw [hb4]
  have e5:byteI x 5=(b5.toNat:Int):=by unfold byteI;rw [hb5]
  have e6:byteI x 6=(b6.toNat:Int):=by unfold byteI;rw [hb6]
  obtain ⟨n4,hn4⟩:∃ m:Nat,b4.toNat=m:=⟨_,rfl⟩;obtain ⟨n5,hn5⟩:∃ m:Nat,b5.toNat=m:=⟨_,rfl⟩;obtain ⟨n6,hn6⟩:∃ m:Nat,b6.toNat=m:=⟨_,rfl⟩;have hl4:n4 < 256:=by rw [← hn4];exact b4.isLt
  have hl5:n5 < 256:=by rw [← hn5];exact b5.isLt
  have hl6:n6 < 256:=by rw [← hn6];exact b6.isLt
  rw [hn4] at e4;rw [hn5] at e5;rw [hn6] at e6;have hcell:∀ (i:Nat),i < 55→w2.cell? ⟨gx,i,none⟩=some (bv8 (x.getD i 0)):=fun i hi=>by
   obtain ⟨b,o,e,_,hc⟩:=HSX.out.at_ (by omega);injection e with e;injection e with e1 e2;subst e1 e2;have:=hc i _ (Zz1l x i (by rw [HXL.out];exact hi))
   rwa [Nat.zero_add] at this
  have k4:=hcell 4 (by omega);have k5:=hcell 5 (by omega);have k6:=hcell 6 (by omega);rw [hb4] at k4;rw [hb5] at k5;rw [hb6] at k6;unfold bv8 at k4 k5 k6;rw [hn4] at k4;rw [hn5] at k5;rw [hn6] at k6;have HC4:=hid (fun (i:Nat) (hi:i < 4)=>hcell i (by omega));have HTi:=hid (show T=if k=2#8∧(n6:Int)≤48∧noughts (x.drop (7+n6))=true then some (pgOf x l) else none by rw [HTif.out,e6,Int.toNat_natCast]);have HE4:=hid e4;have HE5:=hid e5;have HE6:=hid e6;clear hcell hb4 hb5 hb6 hn4 hn5 hn6 e4 e5 e6 HTif;by_cases hk2:k=2#8
  ·have hkk:(k.toNat:Int)=2:=by rw [hk2];rfl
   rw [hkk];clear hkk hkb;go_wp2_with fail;go_loop [7,27] (fun v i=>∃ j:Nat,j≤4∧i= .int .i64 j∧v= .int .i64 (numL (x.take j))) (fun _ i=>4 - (intOf i).toNat)
   case atStart=>exact ⟨0,by omega,rfl,rfl⟩
   case round=>
    obtain ⟨j,hj,rfl,rfl⟩:=hrel;by_cases hlt:j < 4
    ·have hlt':(j:Int) < 4:=by omega
     have hc:=HC4.out j hlt;have hb1:=Zz0w (x.take j);have hlj:(x.take j).length=j:=by rw [List.length_take,HXL.out];omega
     rw [hlj] at hb1;have hj3:j≤3:=by omega
     have hp:(256:Int) ^ j≤16777216:=by
      rcases (show j=0∨j=1∨j=2∨j=3 by omega) with rfl | rfl | rfl | rfl <;> decide
     obtain ⟨mm,hmm⟩:∃ q:Nat,(q:Int)=numL (x.take j):=⟨(numL (x.take j)).toNat,by omega⟩;have hmlt:mm < 16777216:=by omega
     have HMM:=hid hmm;have hxlt:=(x.getD j 0).isLt;obtain ⟨xb,hx⟩:∃ xb,x.getD j 0=xb:=⟨_,rfl⟩;have HX:=hid hx;rw [hx] at hc hxlt;unfold bv8 at hc;have htk:=hid (show numL (x.take (j+1))=(mm:Int)*256+(xb.toNat:Int) by
      rw [ZtS (by rw [HXL.out];omega),Zz3e,HMM.out];have:x[j]'(by rw [HXL.out];omega)=xb:=by rw [← HX.out,ZgD,ZgE (by rw [HXL.out];omega)];rfl
      rw [this])
     rw [← hmm];have hsh:IntKind.i64.wrap ((mm:Int)*256)=(mm:Int)*256:=by rw [IntKind.wrap_i64];omega
     clear hmm hx hb1 hlj hp;have hor:=Zzbj mm xb.toNat hmlt (by omega);go_wp2_with fail;go_round
     case rel=>exact ⟨j+1,by omega,by go_num,by rw [htk.out]⟩
     case measure=>simp [intOf];omega
    ·obtain rfl:j=4:=by omega
     obtain ⟨sq,hsq⟩:∃ q,numL (x.take 4)=q:=⟨_,rfl⟩;have hbq:=Zz0w (x.take 4);rw [show (x.take 4).length=4 by rw [List.length_take,HXL.out];rfl,hsq] at hbq;have ewq:IntKind.i64.wrap sq=sq:=by rw [IntKind.wrap_i64];omega
     rw [hsq];have HSQ:=hid hsq;clear hsq hbq;by_cases h48:(n6:Int)≤48
     ·have h48':¬ (48:Int) < (n6:Int):=by omega
      have h48n:n6≤48:=by omega
      obtain ⟨q7,hq7⟩:∃ q:Nat,7+n6=q:=⟨_,rfl⟩;have ew:IntKind.i64.wrap (7+(n6:Int))=(q7:Int):=by rw [IntKind.wrap_i64];omega
      have hq55:q7≤55:=by omega
      have hq7b:7≤q7:=by omega
      have hqcx:(q7:Int)≤(cx:Int):=by omega
      obtain ⟨At,hAt⟩:∃ a:Option Addr,(if cx=q7 then some ⟨gx,0,none⟩ else some ⟨gx,q7,none⟩)=a:=⟨_,rfl⟩;have hst:=HSX.out.cut (k:=q7) (m:=55) (c:=cx) hq55 (by omega) hcx1;simp only [Nat.mul_one,Option.map_some,Zz0m,Nat.zero_add] at hst;rw [hAt,← List.map_drop,ZtL (by rw [List.length_map,List.length_drop,HXL.out];omega)] at hst;have HST:=hid hst;have hcx55:(55:Int)≤(cx:Int):=by omega
      have h0q:(0:Int)≤(q7:Int):=by omega
      clear hst;go_wp2_with fail;refine (Zzh2 w2.heap.size At (x.drop q7) (55 - q7) (cx - q7) w2 HST.out (by omega) (by omega)).mono ?_;rintro e w' ⟨A9,n9,c9,rfl,⟨d9,rfl⟩,hn9,hiff⟩;have hno:noughts (x.drop (7+n6))=true↔n9=0:=by
       rw [hq7,hiff];unfold noughts;rw [List.all_eq_true];constructor
       ·intro hh i hi
        have:=hh _ (List.getElem_mem hi)
        rw [ZgD,ZgE hi];simpa using this
       ·intro hh y hy
        obtain ⟨i,hi,rfl⟩:=List.mem_iff_getElem.1 hy;have:=hh i hi
        rw [ZgD,ZgE hi] at this;simpa using this
      have HNO:=hid hno;clear hiff hno HST hAt;have HRD:Hid (Row (w2.drewN d9) w.heap.size 128 [.int .i64 0,.int .i64 0,.int .i64 0,.slice none 0 0,.slice none 0 0]):=HR2.out;have HBD:=hid (Zz01 HB2.out d9);by_cases hz:n9=0
      ·subst hz
       have hT:T=some (pgOf x l):=by rw [HTi.out,if_pos ⟨hk2,h48,HNO.out.2 rfl⟩]
       subst hT;have hq67:q7 - 7=n6:=by omega
       have hcx7:¬ cx=7:=by omega
       have h7q:(7:Int)≤(q7:Int):=by omega
       have ew4:IntKind.i64.wrap (n4:Int)=(n4:Int):=by rw [IntKind.wrap_i64];omega
       have ew5:IntKind.i64.wrap (n5:Int)=(n5:Int):=by rw [IntKind.wrap_i64];omega
       have z0:=HR2.out.cell 0;have z1:=HR2.out.cell 1;have z2:=HR2.out.cell 2;have z3:=HR2.out.cell 3;have z4:=HR2.out.cell 4;simp only [ZgS,ZgZ] at z0 z1 z2 z3 z4;have y0:=HR2.out.frozen 0;have y1:=HR2.out.frozen 1;have y2:=HR2.out.frozen 2;have y3:=HR2.out.frozen 3;have y4:=HR2.out.frozen 4;go_upto_region 13 with fail;go_region
       go_wp2_with fail;have R5:=row5 (show Row (w2.drewN (d9+1)) w.heap.size 128 _ from HR2.out) (.int .i64 sq) (.int .i64 n4) (.int .i64 n5) (.slice (some ⟨gx,7,none⟩) n6 (cx - 7)) (.slice A n c);have B5:=below5 (Zz01 HB2.out (d9+1)) (ZnR _) HB2.out.size (.int .i64 sq) (.int .i64 n4) (.int .i64 n5) (.slice (some ⟨gx,7,none⟩) n6 (cx - 7)) (.slice A n c);have X5:=Zzgl (show Row (w2.drewN (d9+1)) gx 5 cur from HRX.out) (show gx≠w.heap.size by omega) (.int .i64 sq) (.int .i64 n4) (.int .i64 n5) (.slice (some ⟨gx,7,none⟩) n6 (cx - 7)) (.slice A n c);have q0:=R5.cell 0;have q1:=R5.cell 1;have q2:=R5.cell 2;have q3:=R5.cell 3;have q4:=R5.cell 4;simp only [ZgS,ZgZ] at q0 q1 q2 q3 q4
       refine bodyPost_ret (v:= .tuple #[.agg #[.int .i64 sq,.int .i64 n4,.int .i64 n5,.slice (some ⟨gx,7,none⟩) n6 (cx - 7),.slice A n c],.bool true]) ?_ rfl ⟨.slice (some ⟨gx,7,none⟩) n6 (cx - 7),.slice A n c,?_,?_,fun _=>rfl,(fun hh=>by cases hh),B5⟩
       ·simp [results,Tryz.results100,go_sem,q0,q1,q2,q3,q4]
       ·show _=Ending.returned (.tuple #[.agg #[.int .i64 (numL (x.take 4)),.int .i64 (byteI x 4),.int .i64 (byteI x 5),.slice (some ⟨gx,7,none⟩) n6 (cx - 7),.slice A n c],.bool true])
        rw [HSQ.out,HE4.out,HE5.out]
       ·show TB w.heap.size _ (.slice (some ⟨gx,7,none⟩) n6 (cx - 7)) ((x.drop 7).take (byteI x 6).toNat)
        rw [HE6.out,Int.toNat_natCast];have hbl:((x.drop 7).take n6).length=n6:=by rw [List.length_take,List.length_drop,HXL.out];omega
        refine ⟨_,_,by rw [hbl],by rw [hbl];omega,by omega,fun _=>⟨gx,7,cur,rfl,by omega,X5,?_⟩⟩;rw [hbl,List.map_take,List.map_drop,← HCUR.out,List.drop_take,List.take_take,Nat.min_eq_left (by omega)]
      ·have hz':(0:Int) < (n9:Int):=by omega
       have hT:T=none:=by rw [HTi.out,if_neg (fun hh=>hz (HNO.out.1 hh.2.2))]
       subst hT;have z0:=HRD.out.cell 0;have z1:=HRD.out.cell 1;have z2:=HRD.out.cell 2;have z3:=HRD.out.cell 3;have z4:=HRD.out.cell 4;simp only [ZgS,ZgZ] at z0 z1 z2 z3 z4;have y0:=HRD.out.frozen 0;have y1:=HRD.out.frozen 1;have y2:=HRD.out.frozen 2;have y3:=HRD.out.frozen 3;have y4:=HRD.out.frozen 4;go_wp2_with fail;have R5:=row5 HRD.out (.int .i64 0) (.int .i64 0) (.int .i64 0) (.slice none 0 0) (.slice none 0 0);have B5:=below5 HBD.out (ZnR _) HBD.out.size (.int .i64 0) (.int .i64 0) (.int .i64 0) (.slice none 0 0) (.slice none 0 0);have q0:=R5.cell 0;have q1:=R5.cell 1;have q2:=R5.cell 2;have q3:=R5.cell 3;have q4:=R5.cell 4;simp only [ZgS,ZgZ] at q0 q1 q2 q3 q4
       refine bodyPost_ret (v:= .tuple #[Pg.zero.val (.slice none 0 0) (.slice none 0 0),.bool false]) ?_ rfl ⟨.slice none 0 0,.slice none 0 0,?_,?_,?_,fun _=>rfl,B5⟩
       ·simp [results,Tryz.results100,go_sem,q0,q1,q2,q3,q4]
        rfl
       ·rfl
       ·exact TB.nil_ _ _
       ·intro hh;cases hh
     ·have h48':(48:Int) < (n6:Int):=by omega
      have hT:T=none:=by rw [HTi.out,if_neg (fun hh=>h48 hh.2.1)]
      subst hT;have z0:=HR2.out.cell 0;have z1:=HR2.out.cell 1;have z2:=HR2.out.cell 2;have z3:=HR2.out.cell 3;have z4:=HR2.out.cell 4;simp only [ZgS,ZgZ] at z0 z1 z2 z3 z4;have y0:=HR2.out.frozen 0;have y1:=HR2.out.frozen 1;have y2:=HR2.out.frozen 2;have y3:=HR2.out.frozen 3;have y4:=HR2.out.frozen 4;go_wp2_with fail;have R5:=row5 HR2.out (.int .i64 0) (.int .i64 0) (.int .i64 0) (.slice none 0 0) (.slice none 0 0);have B5:=below5 HB2.out (ZnR _) HB2.out.size (.int .i64 0) (.int .i64 0) (.int .i64 0) (.slice none 0 0) (.slice none 0 0);have q0:=R5.cell 0;have q1:=R5.cell 1;have q2:=R5.cell 2;have q3:=R5.cell 3;have q4:=R5.cell 4;simp only [ZgS,ZgZ] at q0 q1 q2 q3 q4
      refine bodyPost_ret (v:= .tuple #[Pg.zero.val (.slice none 0 0) (.slice none 0 0),.bool false]) ?_ rfl ⟨.slice none 0 0,.slice none 0 0,?_,?_,?_,fun _=>rfl,B5⟩
      ·simp [results,Tryz.results100,go_sem,q0,q1,q2,q3,q4]
       rfl
      ·rfl
      ·exact TB.nil_ _ _
      ·intro hh;cases hh
  ·have hkk:¬ (k.toNat:Int)=2:=fun hh=>hk2 (BitVec.eq_of_toNat_eq (by show k.toNat=2;omega))
   have hT:T=none:=by rw [HTi.out,if_neg (fun hh=>hk2 hh.1)]
   subst hT;have z0:=HR2.out.cell 0;have z1:=HR2.out.cell 1;have z2:=HR2.out.cell 2;have z3:=HR2.out.cell 3;have z4:=HR2.out.cell 4;simp only [ZgS,ZgZ] at z0 z1 z2 z3 z4;have y0:=HR2.out.frozen 0;have y1:=HR2.out.frozen 1;have y2:=HR2.out.frozen 2;have y3:=HR2.out.frozen 3;have y4:=HR2.out.frozen 4;go_wp2_with fail;have R5:=row5 HR2.out (.int .i64 0) (.int .i64 0) (.int .i64 0) (.slice none 0 0) (.slice none 0 0);have B5:=below5 HB2.out (ZnR _) HB2.out.size (.int .i64 0) (.int .i64 0) (.int .i64 0) (.slice none 0 0) (.slice none 0 0);have q0:=R5.cell 0;have q1:=R5.cell 1;have q2:=R5.cell 2;have q3:=R5.cell 3;have q4:=R5.cell 4;simp only [ZgS,ZgZ] at q0 q1 q2 q3 q4
   refine bodyPost_ret (v:= .tuple #[Pg.zero.val (.slice none 0 0) (.slice none 0 0),.bool false]) ?_ rfl ⟨.slice none 0 0,.slice none 0 0,?_,?_,?_,fun _=>rfl,B5⟩
   ·simp [results,Tryz.results100,go_sem,q0,q1,q2,q3,q4]
    rfl
   ·rfl
   ·exact TB.nil_ _ _
   ·intro hh;cases hh
theorem row4 {w:World} {g:Nat} {t:TypeId} {z0 z1 z2 z3:Value} (h:Row w g t [z0,z1,z2,z3]) (a0 a1 a2 a3:Value):Row ((((w.setCell ⟨g,0,none⟩ a0).setCell ⟨g,1,none⟩ a1).setCell ⟨g,2,none⟩ a2).setCell ⟨g,3,none⟩ a3) g t [a0,a1,a2,a3]:=((((h.set 0 a0).set 1 a1).set 2 a2).set 3 a3)
theorem below4 {w0 w:World} {g B:Nat} (h:Below B w0 w) (hg:B≤g) (hs:B≤w.heap.size) (a0 a1 a2 a3:Value):Below B w0 ((((w.setCell ⟨g,0,none⟩ a0).setCell ⟨g,1,none⟩ a1).setCell ⟨g,2,none⟩ a2).setCell ⟨g,3,none⟩ a3):=
 (Zz0e (Zz0e (Zz0e (Zz0e h _ _ hg (by simpa [World.setCell] using hs) _) _ _ hg (by simpa [World.setCell] using hs) _) _ _ hg (by simpa [World.setCell] using hs) _) _ _ hg (by simpa [World.setCell] using hs) _)
theorem Zzgf {w:World} {g g':Nat} {t:TypeId} {cs:List Value} (h:Row w g t cs) (hne:g≠g') (a0 a1 a2 a3:Value):Row ((((w.setCell ⟨g',0,none⟩ a0).setCell ⟨g',1,none⟩ a1).setCell ⟨g',2,none⟩ a2).setCell ⟨g',3,none⟩ a3) g t cs:=
 Zz2p (Zz2p (Zz2p (Zz2p h hne _) hne _) hne _) hne _
theorem infoPgR:(Tryz.prog.info? 96).map (fun i=>(i.zero,i.size,i.bytes))=some (some (.agg #[.int .i64 0,.int .i64 0,.int .i64 0,.slice none 0 0]),4,48):=by kernel_rfl
theorem Zzf1 (w:World) {g g':Nat} (hne:g≠g') (a0 a1 a2 a3:Value):((((w.setCell ⟨g',0,none⟩ a0).setCell ⟨g',1,none⟩ a1).setCell ⟨g',2,none⟩ a2).setCell ⟨g',3,none⟩ a3).heap[g]? =w.heap[g]? :=
 (Below.heap_setCell _ ⟨g',3,none⟩ a3 g hne).trans ((Below.heap_setCell _ ⟨g',2,none⟩ a2 g hne).trans ((Below.heap_setCell _ ⟨g',1,none⟩ a1 g hne).trans (Below.heap_setCell _ ⟨g',0,none⟩ a0 g hne)))
theorem Zz8o {w:World} {g g' o:Nat} {v:Value} (h:w.cell? ⟨g,o,none⟩=some v) (hne:g≠g') (a0 a1 a2 a3:Value):((((w.setCell ⟨g',0,none⟩ a0).setCell ⟨g',1,none⟩ a1).setCell ⟨g',2,none⟩ a2).setCell ⟨g',3,none⟩ a3).cell? ⟨g,o,none⟩=some v:=
 (World.cell?_of_block (a:=⟨g,o,none⟩) (Zzf1 w hne a0 a1 a2 a3)).trans h
theorem Zzf9 {w:World} {B g' n:Nat} {A:Option Addr} {xs:List Value} (h:Sl w B 1 A n xs) (hne:∀ b o,A=some ⟨b,o,none⟩→b≠g') (a0 a1 a2 a3:Value):Sl ((((w.setCell ⟨g',0,none⟩ a0).setCell ⟨g',1,none⟩ a1).setCell ⟨g',2,none⟩ a2).setCell ⟨g',3,none⟩ a3) B 1 A n xs:=
 ⟨h.len,fun hn=>by
  obtain ⟨b,o,e,hb,hc⟩:=h.at_ hn;exact ⟨b,o,e,hb,fun j u hu=>Zz8o (hc j u hu) (hne b o e) a0 a1 a2 a3⟩⟩
def RPageR (T:Option Pg) (w:World) (e:Ending) (w':World):Prop:=
 ∃ (s a o:Int) (A:Option Addr) (n c:Nat) (b:Bool) (l:List Byte),e= .returned (.tuple #[.agg #[.int .i64 s,.int .i64 a,.int .i64 o,.slice A n c],.bool b])∧(n≤c∧c≤9223372036854775807)∧n≤48∧l.length=n∧Sl w' w'.heap.size 1 A n (l.map bv8)∧(∀ b o,A=some ⟨b,o,none⟩→w.heap.size≤b)∧(b=false→T=none)∧(b=true→∃ cell,T=some ⟨s,a,o,l,cell⟩)∧Below w.heap.size w w'
theorem Zz83 (B:Nat) (A:Option Addr) (l:List Byte) (n c:Nat) (w:World) (h:Sl w B 1 A n (l.map bv8)) (hB:B≤w.heap.size) (hn:n≤1048576) (hc:n≤c) (hc2:c≤9223372036854775807):
  Calls Tryz.prog 63 #[.slice A n c] w (RPageR (tkPage l) w):=by
 obtain ⟨T,hT⟩:∃ T,tkPage l=T:=⟨_,rfl⟩;rw [hT];have HTT:=hid hT;have hr0:Row (w.alloc (.cells #[.int .i64 0,.int .i64 0,.int .i64 0,.slice none 0 0] 96)) w.heap.size 96 [.int .i64 0,.int .i64 0,.int .i64 0,.slice none 0 0]:=Row.new w 96 #[.int .i64 0,.int .i64 0,.int .i64 0,.slice none 0 0];have hb0:Below w.heap.size w (w.alloc (.cells #[.int .i64 0,.int .i64 0,.int .i64 0,.slice none 0 0] 96)):=(Below.refl _ _).alloc (ZnR _) _;have HS:=hid h;obtain ⟨ipg,hipg,hzpg,hzpg1,hzpg2⟩:=info_parts infoPgR;clear hT h;go_enter Tryz.func63,Tryz.ntmps63;go_wp2_with fail;generalize w.alloc (.cells #[.int .i64 0,.int .i64 0,.int .i64 0,.slice none 0 0] 96)=w1 at*;have hlt0:=hr0.lt
 refine (Zz4k B A l n c _ (HS.out.below (hb0.mono hB)) (ZnT hB hb0.size) hn hc hc2).mono ?_;rintro e w2 ⟨v,rfl,hv,hb2⟩;have hr2:=hr0.below hb2 hlt0;have hb02:=hb0.trans (hb2.mono hb0.size);have hv':OB w.heap.size w2 v ((takeP l).getD (0#8, [])).2:=Zz0b hv hb0.size;have hgv:∀ k,v.ownBlock=some k→w.heap.size < k:=fun k hk=>by have:=(Zz2q hv k hk).1;omega
 have HR2:=hid hr2;have HB2:=hid hb02;have HGV:=hid hgv;clear hr0 hb0 hb2 hr2 hb02 hv hgv hlt0;cases htk:takeP l with
 | none=>
  rw [htk] at hv';have hT:T=none:=by rw [← HTT.out];unfold tkPage;rw [htk]
  subst hT;obtain ⟨Ax,cx,rfl,_,_,_⟩:=hv'.read;unfold tkV;clear htk hv';have z0:=HR2.out.cell 0;have z1:=HR2.out.cell 1;have z2:=HR2.out.cell 2;have z3:=HR2.out.cell 3;simp only [ZgS,ZgZ] at z0 z1 z2 z3;have y0:=HR2.out.frozen 0;have y1:=HR2.out.frozen 1;have y2:=HR2.out.frozen 2;have y3:=HR2.out.frozen 3;go_wp2_with fail;have R4:=row4 HR2.out (.int .i64 0) (.int .i64 0) (.int .i64 0) (.slice none 0 0);have B4:=below4 HB2.out (ZnR _) HB2.out.size (.int .i64 0) (.int .i64 0) (.int .i64 0) (.slice none 0 0);have q0:=R4.cell 0;have q1:=R4.cell 1;have q2:=R4.cell 2;have q3:=R4.cell 3;simp only [ZgS,ZgZ] at q0 q1 q2 q3
  refine bodyPost_ret (v:= .tuple #[.agg #[.int .i64 0,.int .i64 0,.int .i64 0,.slice none 0 0],.bool false]) ?_ rfl ⟨0,0,0,none,0,0,false, [],rfl,by omega,by omega,rfl,Sl.nil_,(fun b o e=>by cases e),(fun _=>rfl),(fun hh=>by cases hh),B4⟩
  ·simp [results,Tryz.results63,go_sem,q0,q1,q2,q3]
 | some p=>
  obtain ⟨k,x⟩:=p;rw [htk] at hv';have hxl:x.length=55:=(Zz24 htk).2.1;have HXL:=hid hxl;unfold tkV;dsimp only [Option.getD,Option.isSome] at hv' ⊢;have hTif:T=if k=2#8∧byteI x 6≤48∧noughts (x.drop (7+(byteI x 6).toNat))=true then some (pgOf x l) else none:=by
   rw [← HTT.out];unfold tkPage;rw [htk]
  have HTif:=hid hTif;have hkb:=k.isLt;obtain ⟨Ax,cx,rfl,hcx1,hcx2,_⟩:=hv'.read;unfold OB at hv';rw [hxl] at hcx1 hv' ⊢;obtain ⟨gx,cur,rfl,hgx,hrx,hcur⟩:=Zzd7 hv' (by omega);have hgx2:w.heap.size < gx:=HGV.out gx rfl;have hsx:Sl w2 w2.heap.size 1 (some ⟨gx,0,none⟩) 55 (x.map bv8):=Sl.own hv';have hgxl:gx < w2.heap.size:=hrx.lt;have HSX:=hid hsx;clear htk hTif hv' hrx hsx hcur hgx;obtain ⟨b4,hb4⟩:∃ b,x.getD 4 0=b:=⟨_,rfl⟩;obtain ⟨b5,hb5⟩:∃ b,x.getD 5 0=b:=⟨_,rfl⟩;obtain ⟨b6,hb6⟩:∃ b,x.getD 6 0=b:=⟨_,rfl⟩;have e4:byteI x 4=(b4.toNat:Int):=by unfold byteI;rw [hb4]
  have e5:byteI x 5=(b5.toNat:Int):=by unfold byteI;rw [hb5]
  have e6:byteI x 6=(b6.toNat:Int):=by unfold byteI;rw [hb6]
  obtain ⟨n4,hn4⟩:∃ m:Nat,b4.toNat=m:=⟨_,rfl⟩;obtain ⟨n5,hn5⟩:∃ m:Nat,b5.toNat=m:=⟨_,rfl⟩;obtain ⟨n6,hn6⟩:∃ m:Nat,b6.toNat=m:=⟨_,rfl⟩;have hl4:n4 < 256:=by rw [← hn4];exact b4.isLt
  have hl5:n5 < 256:=by rw [← hn5];exact b5.isLt
  have hl6:n6 < 256:=by rw [← hn6];exact b6.isLt
  rw [hn4] at e4;rw [hn5] at e5;rw [hn6] at e6;have hcell:∀ (i:Nat),i < 55→w2.cell? ⟨gx,i,none⟩=some (bv8 (x.getD i 0)):=fun i hi=>by
   obtain ⟨b,o,e,_,hc⟩:=HSX.out.at_ (by omega);injection e with e;injection e with e1 e2;subst e1 e2;have:=hc i _ (Zz1l x i (by rw [HXL.out];exact hi))
   rwa [Nat.zero_add] at this
  have k4:=hcell 4 (by omega);have k5:=hcell 5 (by omega);have k6:=hcell 6 (by omega);rw [hb4] at k4;rw [hb5] at k5;rw [hb6] at k6;unfold bv8 at k4 k5 k6;rw [hn4] at k4;rw [hn5] at k5;rw [hn6] at k6;have K4:=hid k4;have K5:=hid k5;have K6:=hid k6;have HTi:=hid (show T=if k=2#8∧(n6:Int)≤48∧noughts (x.drop (7+n6))=true then some (pgOf x l) else none by rw [HTif.out,e6,Int.toNat_natCast]);have HE4:=hid e4;have HE5:=hid e5;have HE6:=hid e6;clear hcell hb4 hb5 hb6 hn4 hn5 hn6 e4 e5 e6 HTif;by_cases hk2:k=2#8
  ·have hkk:(k.toNat:Int)=2:=by rw [hk2];rfl
   rw [hkk];clear hkk hkb;by_cases h48:(n6:Int)≤48
   ·have h48':¬ (48:Int) < (n6:Int):=by omega
    have h48n:n6≤48:=by omega
    obtain ⟨sq,hsq⟩:∃ q,numL ((x.drop 0).take 4)=q:=⟨_,rfl⟩;have HSQ:=hid hsq;obtain ⟨q7,hq7⟩:∃ q:Nat,7+n6=q:=⟨_,rfl⟩;have ew:IntKind.i64.wrap (7+(n6:Int))=(q7:Int):=by rw [IntKind.wrap_i64];omega
    have hq55:q7≤55:=by omega
    have hq7b:7≤q7:=by omega
    have hqcx:(q7:Int)≤(cx:Int):=by omega
    have hq67:q7 - 7=n6:=by omega
    have hcx7:¬ cx=7:=by omega
    have h7q:(7:Int)≤(q7:Int):=by omega
    have hcx55:(55:Int)≤(cx:Int):=by omega
    have h0q:(0:Int)≤(q7:Int):=by omega
    have hq55i:(q7:Int)≤55:=by omega
    have h4cx:(4:Int)≤(cx:Int):=by omega
    have ew4:IntKind.i64.wrap (n4:Int)=(n4:Int):=by rw [IntKind.wrap_i64];omega
    have ew6:IntKind.i64.wrap (n6:Int)=(n6:Int):=by rw [IntKind.wrap_i64];omega
    have ew5:IntKind.i64.wrap (n5:Int)=(n5:Int):=by rw [IntKind.wrap_i64];omega
    have hbq:=Zz0w ((x.drop 0).take 4);rw [show ((x.drop 0).take 4).length=4 by rw [List.length_take,List.length_drop,HXL.out];rfl,hsq] at hbq;have ewq:IntKind.i64.wrap sq=sq:=by rw [IntKind.wrap_i64];omega
    clear hsq hbq;go_upto_region 4 with fail;clear k4 k5 k6;refine Org.begin [] (fun w'=>Below w2.heap.size w2 w') [0,1,2,3,4,5,6,7,8,9,10,11,12,13,14,15,16,17,18,19,20] (by kernel_rfl) (Zz01 (Below.refl _ _) 1) (fun hS=> ?_);iterate 2 (refine Org.yV (SM.of hS) ?_;try simp only [aS,aN,aA,a0,a1])
    (refine Org.yA (v:= ?_) (SM.of hS) ?_ ?_;rotate_left;(focus (intro w hSw;(try dsimp only at hSw);refine Pure.call 92 #[.slice (some ⟨gx,0,none⟩) 4 cx] (by go_simp;first | done | rfl) ?_;refine (Zz3m (HSX.out.below hSw) 0 4 cx (by omega) (by omega) sq HSQ.out).mono ?_;rintro e w' ⟨rfl,rfl⟩;refine ⟨?_,rfl⟩;with_reducible rfl));try simp only [aS,aN,aA,a0,a1]);iterate 2 (refine Org.yV (SM.of hS) ?_;try simp only [aS,aN,aA,a0,a1])
    (refine Org.yA (v:= ?_) (SM.of hS) ?_ ?_;rotate_left;(focus (intro w hSw;(try dsimp only at hSw);have q4:=(hSw.cell (p:=⟨gx,4,none⟩) hgxl).trans K4.out;refine Pure.val ?_;go_simp;(try with_reducible rfl);done));try simp only [aS,aN,aA,a0,a1]);iterate 3 (refine Org.yV (SM.of hS) ?_;try simp only [aS,aN,aA,a0,a1])
    (refine Org.yA (v:= ?_) (SM.of hS) ?_ ?_;rotate_left;(focus (intro w hSw;(try dsimp only at hSw);have q5:=(hSw.cell (p:=⟨gx,5,none⟩) hgxl).trans K5.out;refine Pure.val ?_;go_simp;(try with_reducible rfl);done));try simp only [aS,aN,aA,a0,a1]);iterate 4 (refine Org.yV (SM.of hS) ?_;try simp only [aS,aN,aA,a0,a1])
    (refine Org.yA (v:= ?_) (SM.of hS) ?_ ?_;rotate_left;(focus (intro w hSw;(try dsimp only at hSw);have q6:=(hSw.cell (p:=⟨gx,6,none⟩) hgxl).trans K6.out;refine Pure.val ?_;go_simp;(try with_reducible rfl);done));try simp only [aS,aN,aA,a0,a1]);iterate 4 (refine Org.yV (SM.of hS) ?_;try simp only [aS,aN,aA,a0,a1])
    refine Org.gA fun K hK=> ?_
    refine Zz5r 96 (by rfl) ipg (.agg #[.int .i64 0,.int .i64 0,.int .i64 0,.slice none 0 0]) hipg hzpg ?_;intro w8 g8 hg8 r8 b8 s8;have HR8:=hid (show Row w8 g8 96 [.int .i64 0,.int .i64 0,.int .i64 0,.slice none 0 0] from r8);have HG8:=hid (show w2.heap.size≤g8 by rw [← hg8];exact hS.size);rw [← hg8] at b8;have hS3:=hS.trans (b8.mono hS.size);clear r8 b8 s8 hg8;refine hK.out _ _ hS3 (fun hS2=> ?_);clear hK K hS;have hS:=hS2;clear hS2;try simp only [aS,aN,aA,a0,a1]
    refine Org.gA fun K hK=> ?_
    have f0:=HR8.out.frozen 0;have f1:=HR8.out.frozen 1;have f2:=HR8.out.frozen 2;have f3:=HR8.out.frozen 3;have c0:=HR8.out.cell 0;have c1:=HR8.out.cell 1;have c2:=HR8.out.cell 2;have c3:=HR8.out.cell 3;simp only [ZgS,ZgZ] at c0 c1 c2 c3;have RR:=row4 HR8.out (.int .i64 sq) (.int .i64 n4) (.int .i64 n5) (.slice (some ⟨gx,7,none⟩) n6 (cx - 7));have hS3:=below4 hS HG8.out hS.size (.int .i64 sq) (.int .i64 n4) (.int .i64 n5) (.slice (some ⟨gx,7,none⟩) n6 (cx - 7));have HRR:=hid RR;go_simp;refine hK.out _ _ hS3 (fun hS2=> ?_);clear hK K hS;have hS:=hS2;clear hS2;try simp only [aS,aN,aA,a0,a1]
    refine Org.done (by kernel_rfl) ?_;have HB4:=hid hS;clear hS;obtain ⟨At,hAt⟩:∃ a:Option Addr,(if cx=q7 then some ⟨gx,0,none⟩ else some ⟨gx,q7,none⟩)=a:=⟨_,rfl⟩;have hst:=HSX.out.cut (k:=q7) (m:=55) (c:=cx) hq55 (by omega) hcx1;simp only [Nat.mul_one,Option.map_some,Zz0m,Nat.zero_add] at hst;rw [hAt,← List.map_drop,ZtL (by rw [List.length_map,List.length_drop,HXL.out];omega)] at hst;have HST:=hid hst;have hsb:=HSX.out.cut (k:=7) (m:=q7) (c:=cx) hq7b hq55 (by omega);simp only [Nat.mul_one,Option.map_some,Zz0m,Nat.zero_add] at hsb;rw [if_neg hcx7,hq67,← List.map_drop,← List.map_take] at hsb;have HSB:=hid hsb;have HAT:=hid (show ∀ b o,At=some ⟨b,o,none⟩→w.heap.size < b from fun b o e=>by
     rw [← hAt] at e;split at e <;> (injection e with e;injection e with e;subst e;exact hgx2))
    have HBD:=hid (Zz01 HB4.out 1);clear hst hsb;go_upto_region 5 with fail;generalize (((w8.setCell ⟨g8,0,none⟩ (.int .i64 sq)).setCell ⟨g8,1,none⟩ (.int .i64 (n4:Int))).setCell ⟨g8,2,none⟩ (.int .i64 (n5:Int))).setCell ⟨g8,3,none⟩ (.slice (some ⟨gx,7,none⟩) n6 (cx - 7))=w4 at*
    refine Org.begin [] (fun w'=>w'.cell? ⟨gx,6,none⟩=some (.int .u8 (n6:Int))∧Sl w' w2.heap.size 1 At (55 - q7) ((x.drop q7).map bv8)∧Sl w' w2.heap.size 1 (some ⟨gx,7,none⟩) n6 (((x.drop 7).take n6).map bv8)∧Row w' g8 96 [.int .i64 sq,.int .i64 n4,.int .i64 n5,.slice (some ⟨gx,7,none⟩) n6 (cx - 7)]∧(∃ a b c d,Row w' w.heap.size 96 [a,b,c,d])∧Below w.heap.size w w') [0,1,2,3,4,5,6,7,8,9,10,11] (by kernel_rfl) (⟨(HBD.out.cell (p:=⟨gx,6,none⟩) hgxl).trans K6.out,HST.out.below HBD.out,HSB.out.below HBD.out,HRR.out,⟨_,_,_,_,HR2.out.below HBD.out HR2.out.lt⟩,HB2.out.trans (HBD.out.mono HB2.out.size)⟩) (fun hS=> ?_)
    (refine Org.yA (v:= ?_) (SM.of hS) ?_ ?_;rotate_left;(focus (intro w hSw;(try dsimp only at hSw);have hr:=hSw.2.2.2.1;have q0:=hr.cell 0;have q1:=hr.cell 1;have q2:=hr.cell 2;have q3:=hr.cell 3;simp only [ZgS,ZgZ] at q0 q1 q2 q3;refine Pure.val ?_;go_simp;(try with_reducible rfl);done));try simp only [aS,aN,aA,a0,a1]);iterate 3 (refine Org.yV (SM.of hS) ?_;try simp only [aS,aN,aA,a0,a1])
    (refine Org.yA (v:= ?_) (SM.of hS) ?_ ?_;rotate_left;(focus (intro w hSw;(try dsimp only at hSw);have q6:=hSw.1;refine Pure.val ?_;go_simp;(try with_reducible rfl);done));try simp only [aS,aN,aA,a0,a1]);iterate 3 (refine Org.yV (SM.of hS) ?_;try simp only [aS,aN,aA,a0,a1])
    refine Org.gA fun K hK=> ?_
    go_simp;go_at_call 105;refine (Zzhc w2.heap.size At (x.drop q7) (55 - q7) (cx - q7) _ hS.2.1 (by omega)).mono ?_;rintro e wz ⟨zl,rfl,hwz,hzl⟩;subst hwz;have HZL:=hid hzl;clear hzl;go_wp2_with fail;refine hK.out _ _ hS (fun hS2=> ?_);clear hK K hS;have hS:=hS2;clear hS2;try simp only [aS,aN,aA,a0,a1]
    (refine Org.yV (SM.of hS) ?_;try simp only [aS,aN,aA,a0,a1]);refine Org.gA fun K hK=> ?_
    obtain ⟨o0,o1,o2,o3,hr5⟩:=hS.2.2.2.2.1;have HR5:=hid hr5;have hr5':Row w4 w.heap.size 96 [o0,o1,o2,o3]:=hr5;have f0:=hr5'.frozen 0;have f1:=hr5'.frozen 1;have f2:=hr5'.frozen 2;have f3:=hr5'.frozen 3;have c0:=hr5'.cell 0;have c1:=hr5'.cell 1;have c2:=hr5'.cell 2;have c3:=hr5'.cell 3;simp only [ZgS,ZgZ] at c0 c1 c2 c3;have HB5:=hid hS.2.2.2.2.2;have RF:=row4 HR5.out (.int .i64 sq) (.int .i64 n4) (.int .i64 n5) (.slice (some ⟨gx,7,none⟩) n6 (cx - 7));have BF:=below4 HB5.out (ZnR _) HB5.out.size (.int .i64 sq) (.int .i64 n4) (.int .i64 n5) (.slice (some ⟨gx,7,none⟩) n6 (cx - 7))
    have SF:=Zzf9 hS.2.2.1 (fun b o e=>by injection e with e;injection e with e;subst e;show gx≠w.heap.size;omega) (.int .i64 sq) (.int .i64 n4) (.int .i64 n5) (.slice (some ⟨gx,7,none⟩) n6 (cx - 7));have SA:=Zzf9 hS.2.1 (fun b o e=>by have:=HAT.out b o e;show b≠w.heap.size;omega) (.int .i64 sq) (.int .i64 n4) (.int .i64 n5) (.slice (some ⟨gx,7,none⟩) n6 (cx - 7));have RG:=Zzgf hS.2.2.2.1 (show g8≠w.heap.size by have:=HG8.out;omega) (.int .i64 sq) (.int .i64 n4) (.int .i64 n5) (.slice (some ⟨gx,7,none⟩) n6 (cx - 7));have CX:=Zz8o hS.1 (show gx≠w.heap.size by omega) (.int .i64 sq) (.int .i64 n4) (.int .i64 n5) (.slice (some ⟨gx,7,none⟩) n6 (cx - 7));have HRF:=hid RF
    have HRF2:=hid (row4 hr5' (.int .i64 sq) (.int .i64 n4) (.int .i64 n5) (.slice (some ⟨gx,7,none⟩) n6 (cx - 7)));have HBF:=hid BF;have HSF:=hid SF;have HCX:=hid CX;have HSA:=hid SA;have HRG:=hid RG;clear hr5 hr5' CX SA SF RG RF BF;go_simp;refine hK.out _ _ ⟨HCX.out,HSA.out,HSF.out,HRG.out,⟨_,_,_,_,HRF.out⟩,HBF.out⟩ (fun hS2=> ?_);clear hK K hS;have hS:=hS2;clear hS2;try simp only [aS,aN,aA,a0,a1]
    (refine Org.yV (SM.of hS) ?_;try simp only [aS,aN,aA,a0,a1]);refine Org.done (by kernel_rfl) ?_;have R4:=HRF2.out;go_wp2_with fail;have q0:=R4.cell 0;have q1:=R4.cell 1;have q2:=R4.cell 2;have q3:=R4.cell 3;simp only [ZgS,ZgZ] at q0 q1 q2 q3;have hno:(zl < 0)↔noughts (x.drop (7+n6))=true:=by
     rw [hq7];unfold noughts;rw [List.all_eq_true];rcases HZL.out with ⟨h1,h2⟩ | ⟨h1,y,h2,h3⟩
     ·constructor
      ·intro _ y hy;rw [h2 y hy];rfl
      ·intro _;omega
     ·constructor
      ·intro hh;omega
      ·intro hh;have:=hh y h2;exact absurd (by simpa using this) h3
    refine bodyPost_ret (v:= .tuple #[.agg #[.int .i64 sq,.int .i64 n4,.int .i64 n5,.slice (some ⟨gx,7,none⟩) n6 (cx - 7)],.bool (decide (zl < 0))]) ?_ rfl ⟨sq,n4,n5,some ⟨gx,7,none⟩,n6,cx - 7,decide (zl < 0),(x.drop 7).take n6,rfl,by omega,h48n,by rw [List.length_take,List.length_drop,HXL.out];omega,HSF.out.mono (by have h9:w2.heap.size≤w4.heap.size:=HBD.out.size;simp [World.setCell];exact h9),(fun b o e=>by injection e with e;injection e with e;subst e;exact Nat.le_of_lt hgx2),?_,?_,HBF.out⟩
    ·simp [results,Tryz.results63,go_sem,q0,q1,q2,q3]
    ·intro hh
     rw [HTi.out,if_neg (fun h3=>of_decide_eq_false hh (hno.2 h3.2.2))]
    ·intro hh
     refine ⟨l,?_⟩;rw [HTi.out,if_pos ⟨hk2,h48,hno.1 (of_decide_eq_true hh)⟩];unfold pgOf;rw [HE4.out,HE5.out,HE6.out,Int.toNat_natCast,← HSQ.out,List.drop_zero]
   ·have h48':(48:Int) < (n6:Int):=by omega
    have hT:T=none:=by rw [HTi.out,if_neg (fun hh=>h48 hh.2.1)]
    subst hT;have z0:=HR2.out.cell 0;have z1:=HR2.out.cell 1;have z2:=HR2.out.cell 2;have z3:=HR2.out.cell 3;simp only [ZgS,ZgZ] at z0 z1 z2 z3;have y0:=HR2.out.frozen 0;have y1:=HR2.out.frozen 1;have y2:=HR2.out.frozen 2;have y3:=HR2.out.frozen 3;go_wp2_with fail;have R4:=row4 HR2.out (.int .i64 0) (.int .i64 0) (.int .i64 0) (.slice none 0 0);have B4:=below4 HB2.out (ZnR _) HB2.out.size (.int .i64 0) (.int .i64 0) (.int .i64 0) (.slice none 0 0);have q0:=R4.cell 0;have q1:=R4.cell 1;have q2:=R4.cell 2;have q3:=R4.cell 3;simp only [ZgS,ZgZ] at q0 q1 q2 q3
    refine bodyPost_ret (v:= .tuple #[.agg #[.int .i64 0,.int .i64 0,.int .i64 0,.slice none 0 0],.bool false]) ?_ rfl ⟨0,0,0,none,0,0,false, [],rfl,by omega,by omega,rfl,Sl.nil_,(fun b o e=>by cases e),(fun _=>rfl),(fun hh=>by cases hh),B4⟩
    ·simp [results,Tryz.results63,go_sem,q0,q1,q2,q3]
  ·have hkk:¬ (k.toNat:Int)=2:=fun hh=>hk2 (BitVec.eq_of_toNat_eq (by show k.toNat=2;omega))
   have hT:T=none:=by rw [HTi.out,if_neg (fun hh=>hk2 hh.1)]
   subst hT;have z0:=HR2.out.cell 0;have z1:=HR2.out.cell 1;have z2:=HR2.out.cell 2;have z3:=HR2.out.cell 3;simp only [ZgS,ZgZ] at z0 z1 z2 z3;have y0:=HR2.out.frozen 0;have y1:=HR2.out.frozen 1;have y2:=HR2.out.frozen 2;have y3:=HR2.out.frozen 3;go_wp2_with fail;have R4:=row4 HR2.out (.int .i64 0) (.int .i64 0) (.int .i64 0) (.slice none 0 0);have B4:=below4 HB2.out (ZnR _) HB2.out.size (.int .i64 0) (.int .i64 0) (.int .i64 0) (.slice none 0 0);have q0:=R4.cell 0;have q1:=R4.cell 1;have q2:=R4.cell 2;have q3:=R4.cell 3;simp only [ZgS,ZgZ] at q0 q1 q2 q3
   refine bodyPost_ret (v:= .tuple #[.agg #[.int .i64 0,.int .i64 0,.int .i64 0,.slice none 0 0],.bool false]) ?_ rfl ⟨0,0,0,none,0,0,false, [],rfl,by omega,by omega,rfl,Sl.nil_,(fun b o e=>by cases e),(fun _=>rfl),(fun hh=>by cases hh),B4⟩
   ·simp [results,Tryz.results63,go_sem,q0,q1,q2,q3]
end Go.Proofs.YtnknjeipfjdjoaaGreatDoor
namespace Wells
open Go Go.RowKit
theorem Zzc5 {α:Type} {lt:α→α→Bool} (x:α):∀ l,(ins lt x l).Perm (x::l)
 | []=>List.Perm.refl _
 | y::l=>by
  unfold ins;split
  ·exact List.Perm.refl _
  ·exact ((Zzc5 x l).cons y).trans (List.Perm.swap x y l)
theorem Zz68 {α:Type} {lt:α→α→Bool} (l:List α):(ssort lt l).Perm l:=by
 induction l using Zz39 with
 | h0=>exact List.Perm.refl _
 | h1 l x ih=>
  rw [Zz1q];exact (Zzc5 x _).trans ((ih.cons x).trans (List.perm_append_singleton x l).symm)
theorem Zzdm {l:List Mani} {x:Mani}:x∈dedup l↔x∈l:=by
 induction l using Zz39 with
 | h0=>exact Iff.rfl
 | h1 l y ih=>
  rw [Zz1p];split
  ·rename_i h
   rw [List.mem_append,List.mem_singleton];constructor
   ·intro hx;exact .inl (ih.1 hx)
   ·rintro (hx | hx)
    ·exact ih.2 hx
    ·rw [hx];exact h
  ·rw [List.mem_append,List.mem_append,List.mem_singleton,ih]
theorem Zzab (l:List Mani):(dedup l).Nodup:=by
 induction l using Zz39 with
 | h0=>exact List.Pairwise.nil
 | h1 l y ih=>
  rw [Zz1p];split
  ·exact ih
  ·rename_i h
   rw [List.nodup_append];refine ⟨ih,List.pairwise_singleton _ _,fun a ha b hb e=> ?_⟩;rw [List.mem_singleton] at hb;subst hb;subst e;exact h ha
theorem Zz4x (P:List (List Byte)):(joinL P).Nodup:=(Zz68 _).nodup_iff.2 (Zzab _)
theorem Zzdx (P:List (List Byte)):Srt ltM (joinL P):=Zz0q ltM_ord _
theorem Zzep {P:List (List Byte)} {x:Mani}:x∈joinL P↔∃ f,f∈pagesOf P∧told (pagesOf P) f=some x:=by
 unfold joinL;rw [Zz2d,Zzdm,List.mem_filterMap]
def pgM (m:Mani) (j:Nat):Pg:=⟨m.seq,j,pageN (pack m),pageD (pack m) j,pageC m.seq (pack m) j⟩
structure PagesOf (ms:List Mani) (P:List (List Byte)):Prop where
 may:∀ m∈ms,m.may=true
 fit:∀ m∈ms,pageN (pack m)≤255
 seq:∀ m∈ms,∀ m'∈ms,m.seq=m'.seq→m=m'
 each:∀ c∈P,∃ m∈ms,∃ j,j < pageN (pack m)∧c=pageC m.seq (pack m) j
section
variable {ms:List Mani} {P:List (List Byte)}
theorem PagesOf.tk (h:PagesOf ms P) {m:Mani} (hm:m∈ms) {j:Nat} (hj:j < pageN (pack m)):tkPage (pageC m.seq (pack m) j)=some (pgM m j):=by
 have:=Zzfe (h.may m hm)
 exact Zzft (by omega) (h.fit m hm) hj
theorem PagesOf.mem (h:PagesOf ms P) {f:Pg}:f∈pagesOf P↔∃ m∈ms,∃ j,j < pageN (pack m)∧f=pgM m j∧pageC m.seq (pack m) j∈P:=by
 unfold pagesOf;rw [List.mem_filterMap];constructor
 ·rintro ⟨c,hc,ht⟩
  obtain ⟨m,hm,j,hj,rfl⟩:=h.each c hc;rw [h.tk hm hj] at ht;injection ht with ht;exact ⟨m,hm,j,hj,ht.symm,hc⟩
 ·rintro ⟨m,hm,j,hj,rfl,hc⟩
  exact ⟨_,hc,h.tk hm hj⟩
theorem PagesOf.find (h:PagesOf ms P) {m:Mani} (hm:m∈ms) {j:Nat} (hj:j < pageN (pack m)):(pageC m.seq (pack m) j∈P→(pagesOf P).find? (pgIs (pgM m 0) j)=some (pgM m j))∧(¬ pageC m.seq (pack m) j∈P→(pagesOf P).find? (pgIs (pgM m 0) j)=none):=by
 have key:∀ x∈pagesOf P,pgIs (pgM m 0) j x=true→x=pgM m j∧pageC m.seq (pack m) j∈P:=by
  intro x hx hp;obtain ⟨m',hm',j',hj',rfl,hc⟩:=h.mem.1 hx;unfold pgIs pgM at hp;simp only [Bool.and_eq_true,decide_eq_true_eq] at hp;have e:=h.seq m' hm' m hm hp.1;subst e;have e2:j'=j:=by omega
  subst e2;exact ⟨rfl,hc⟩
 constructor
 ·intro hc
  cases hf:(pagesOf P).find? (pgIs (pgM m 0) j) with
  | none=>
   have:=List.find?_eq_none.1 hf _ (h.mem.2 ⟨m,hm,j,hj,rfl,hc⟩)
   exact absurd (by unfold pgIs pgM;simp) this
  | some x=>rw [(key x (List.mem_of_find?_eq_some hf) (List.find?_some hf)).1]
 ·intro hc
  cases hf:(pagesOf P).find? (pgIs (pgM m 0) j) with
  | none=>rfl
  | some x=>exact absurd (key x (List.mem_of_find?_eq_some hf) (List.find?_some hf)).2 hc
theorem PagesOf.docG_all (h:PagesOf ms P) {m:Mani} (hm:m∈ms):∀ k,k < pageN (pack m)→(∀ j,j≤k→pageC m.seq (pack m) j∈P)→docG (pagesOf P) (pgM m 0) k=(List.range (k+1)).map (pgM m)
 | 0,_,_=>rfl
 | k+1,hk,hall=>by
  rw [docG,h.docG_all hm k (by omega) (fun j hj=>hall j (by omega)),(h.find hm hk).1 (hall _ (ZnR _)),List.range_succ (n:=k+1),List.map_append];rfl
theorem PagesOf.docG_miss (h:PagesOf ms P) {m:Mani} (hm:m∈ms) {j:Nat} (hj:j < pageN (pack m)) (h0:0 < j) (hc:¬ pageC m.seq (pack m) j∈P):(docG (pagesOf P) (pgM m 0) (pageN (pack m) - 1)).length < pageN (pack m):=by
 have h1:(docG (pagesOf P) (pgM m 0) j).length < j+1:=by
  obtain ⟨i,rfl⟩:∃ i,j=i+1:=⟨j - 1,by omega⟩;rw [docG,(h.find hm hj).2 hc];have:=Zzd6 (pagesOf P) (pgM m 0) i
  simp
  omega
 have:=Zz6m h1 (pageN (pack m) - 1) (by omega)
 omega
theorem Zz6i (p:List Byte):∀ k,(List.range k).flatMap (pageD p)=p.take (48*k)
 | 0=>by simp
 | k+1=>by
  rw [List.range_succ,List.flatMap_append,Zz6i p k,show 48*(k+1)=48*k+48 from by omega,List.take_add];simp [pageD]
theorem Zzez (m:Mani):((List.range (pageN (pack m))).map (pgM m)).flatMap Pg.bears=pack m:=by
 rw [List.flatMap_map];show (List.range (pageN (pack m))).flatMap (pageD (pack m))=pack m;rw [Zz6i,ZtL (by unfold pageN;omega)]
theorem Zz8a {m:Mani} (h:m.may=true):wholeL ((List.range (pageN (pack m))).map (pgM m))=some m:=by
 unfold wholeL;rw [Zzez,Zz25 h];show (if _ then _ else _)=_;rw [if_pos];unfold pagesL;rw [List.map_map];rfl
theorem PagesOf.join (h:PagesOf ms P) {x:Mani}:x∈joinL P↔x∈ms∧∀ j,j < pageN (pack x)→pageC x.seq (pack x) j∈P:=by
 have hof:∀ (m:Mani) (N:Nat),N=pageN (pack m)→0 < N→((pgM m 0).of_ - 1).toNat=N - 1∧(pgM m 0).of_.toNat=N∧0 < (pgM m 0).of_:=by
  intro m N e hN;subst e;show (((pageN (pack m):Nat):Int) - 1).toNat=_∧((pageN (pack m):Nat):Int).toNat=_∧0 < ((pageN (pack m):Nat):Int);omega
 rw [Zzep];constructor
 ·rintro ⟨f,hf,ht⟩
  obtain ⟨m,hm,j,hj,rfl,hc⟩:=h.mem.1 hf;unfold told at ht;split at ht
  ·rename_i ha
   obtain rfl:j=0:=by
    have:((j:Nat):Int)=0:=ha
    omega
   obtain ⟨e1,e2,e3⟩:=hof m _ rfl hj;by_cases hall:∀ j,j < pageN (pack m)→pageC m.seq (pack m) j∈P
   ·have hd:=h.docG_all hm (pageN (pack m) - 1) (by omega) (fun j hj=>hall j (by omega))
    rw [show pageN (pack m) - 1+1=pageN (pack m) from by omega] at hd;have hg:gatherL (pagesOf P) (pgM m 0)=some ((List.range (pageN (pack m))).map (pgM m)):=by
     unfold gatherL;rw [e1,e2,hd];exact if_pos ⟨e3,by simp⟩
    rw [hg,Option.bind_some,Zz8a (h.may m hm)] at ht;injection ht with ht;subst ht;exact ⟨hm,hall⟩
   ·exfalso
    obtain ⟨j,hj⟩:=Classical.not_forall.1 hall;obtain ⟨hj,hn⟩:=Classical.not_imp.1 hj;have h0:0 < j:=by
     rcases Nat.eq_zero_or_pos j with e | e
     ·subst e;exact absurd hc hn
     ·exact e
    have hs:=h.docG_miss hm hj h0 hn;have hg:gatherL (pagesOf P) (pgM m 0)=none:=by
     unfold gatherL;rw [e1,e2];exact if_neg (fun hh=>by omega)
    rw [hg] at ht;cases ht
  ·cases ht
 ·rintro ⟨hm,hall⟩
  have hp:=Zz7y (Zzfy (h.may x hm));refine ⟨pgM x 0,h.mem.2 ⟨x,hm,0,hp,rfl,hall 0 hp⟩,?_⟩;obtain ⟨e1,e2,e3⟩:=hof x _ rfl hp;have hd:=h.docG_all hm (pageN (pack x) - 1) (by omega) (fun j hj=>hall j (by omega));rw [show pageN (pack x) - 1+1=pageN (pack x) from by omega] at hd;unfold told;rw [if_pos (show (pgM x 0).at_=0 from rfl)];have hg:gatherL (pagesOf P) (pgM x 0)=some ((List.range (pageN (pack x))).map (pgM x)):=by
   unfold gatherL;rw [e1,e2,hd];exact if_pos ⟨e3,by simp⟩
  rw [hg,Option.bind_some,Zz8a (h.may x hm)]
theorem PagesOf.one {m:Mani} (h:PagesOf [m] P) (hall:∀ c∈pagesL m.seq (pack m),c∈P):joinL P= [m]:=by
 have hm:∀ x,x∈joinL P↔x=m:=by
  intro x;rw [h.join,List.mem_singleton];constructor
  ·exact fun hh=>hh.1
  ·rintro rfl
   exact ⟨rfl,fun j hj=>hall _ (List.mem_map.2 ⟨j,List.mem_range.2 hj,rfl⟩)⟩
 have hd:=Zz4x P;generalize joinL P=l at hm hd;cases l with
 | nil=>exact absurd ((hm m).2 rfl) List.not_mem_nil
 | cons a l=>
  obtain rfl:=(hm a).1 List.mem_cons_self;cases l with
  | nil=>rfl
  | cons b l=>
   obtain rfl:=(hm b).1 (List.mem_cons_of_mem _ List.mem_cons_self);exact absurd List.mem_cons_self (List.nodup_cons.1 hd).1
theorem PagesOf.two {n m:Mani} (h:PagesOf [n,m] P) (hlt:m.seq < n.seq) (hall:∀ c∈pagesL m.seq (pack m),c∈P) (hall':∀ c∈pagesL n.seq (pack n),c∈P):joinL P= [n,m]:=by
 have hnm:¬ n=m:=fun e=>by rw [e] at hlt;omega
 have hm:∀ x,x∈joinL P↔x=n∨x=m:=by
  intro x;rw [h.join];constructor
  ·rintro ⟨h1,-⟩
   simpa using h1
  ·rintro (rfl | rfl)
   ·exact ⟨by simp,fun j hj=>hall' _ (List.mem_map.2 ⟨j,List.mem_range.2 hj,rfl⟩)⟩
   ·exact ⟨by simp,fun j hj=>hall _ (List.mem_map.2 ⟨j,List.mem_range.2 hj,rfl⟩)⟩
 have hd:=Zz4x P;have hs:=Zzdx P;generalize joinL P=l at hm hd hs;have hnl:=(hm n).2 (.inl rfl);have hml:=(hm m).2 (.inr rfl);cases l with
 | nil=>cases hnl
 | cons a l=>
  obtain ⟨hal,hdl⟩:=List.nodup_cons.1 hd;obtain ⟨hsa,hsl⟩:=List.pairwise_cons.1 hs;rcases (hm a).1 List.mem_cons_self with rfl | rfl
  ·have hml':m∈l:=by
    rcases List.mem_cons.1 hml with e | e
    ·exact absurd e.symm hnm
    ·exact e
   have hl:∀ x∈l,x=m:=fun x hx=>by
    rcases (hm x).1 (List.mem_cons_of_mem _ hx) with rfl | e
    ·exact absurd hx hal
    ·exact e
   cases l with
   | nil=>cases hml'
   | cons b l=>
    obtain rfl:=hl b List.mem_cons_self;cases l with
    | nil=>rfl
    | cons c l=>
     obtain rfl:=hl c (List.mem_cons_of_mem _ List.mem_cons_self);exact absurd List.mem_cons_self (List.nodup_cons.1 hdl).1
  ·exfalso
   have hnl':n∈l:=by
    rcases List.mem_cons.1 hnl with e | e
    ·exact absurd e hnm
    ·exact e
   have:=hsa n hnl'
   unfold ltM at this;rw [decide_eq_true hlt] at this;cases this
end
def bump (m:Mani) (s:Int):Mani:={ m with seq:=s}
end Wells
