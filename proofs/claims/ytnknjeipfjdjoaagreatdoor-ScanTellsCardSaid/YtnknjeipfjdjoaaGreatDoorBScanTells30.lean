/- RdEnt RdEnt2 OwnMani ParseMath RefReader ReadBack RefBack -/
import Derived.Laws.BytesArg
import Derived.Deep.RegionLaw
import Derived.Deep.AppendLies
import Derived.Test.YtnknjeipfjdjoaaGreatDoorBScanTells12
import Derived.Test.YtnknjeipfjdjoaaGreatDoorBScanTells29
set_option maxHeartbeats 8000000
set_option maxRecDepth 20000
set_option linter.unusedSimpArgs false
set_option linter.unusedVariables false
set_option linter.unusedSectionVars false
namespace Wells
open Go Go.RowKit
def rdTries:Nat→RSt→List Int×RSt
 | 0,st=>([],st)
 | n+1,st=>if st.2 then ([],st) else ((rdNum 1 st).1::(rdTries n (rdNum 1 st).2).1,(rdTries n (rdNum 1 st).2).2)
def rdEnt (P:Par) (st:RSt):Ent×RSt:=
 let a:=rdNum 1 st
 let nm:=rdSome a.1.toNat a.2
 let o:=rdNum 3 nm.2
 let l:=rdNum 2 o.2
 let t:=rdTries (countP P l.1).toNat l.2
 (⟨nm.1,o.1,l.1,t.1⟩,t.2)
theorem Zz2y {P:Program} {w:World} {B n c:Nat} {A:Option Addr} {l:List Byte} (src dst e:TypeId) (hs:P.underlying src=some (.slice e)) (he:P.underlying e=some (.int .u8)) (hd:P.underlying dst=some .string) (h:Sl w B 1 A n (l.map bv8)):
  (convert src dst (.slice A n c)).run P w= .ok (.string (strB l)) w:=by
 have hl:l.length=n:=by have:=h.len;simpa using this
 rcases A with _ | a
 ·have h0:n=0:=by
   rcases Nat.eq_zero_or_pos n with h0 | h0
   ·exact h0
   ·obtain ⟨_,_,hh,_⟩:=h.at_ h0
    cases hh
  subst h0;have:l= []:=List.eq_nil_of_length_eq_zero hl
  subst this;exact run_convert_bytes_nil w src e hs he 0 c dst hd
 ·rw [run_convert_bytes_string w src dst e (some a) n c hs he hd]
  have hld:=run_loadCells_list (P:=P) w a ((l.map (fun b:Byte=>(b.toNat:Int))).map (Value.int .u8)) (fun j v hj=>by
   have hjl:j < l.length:=by
    have:=(List.getElem?_eq_some_iff.1 hj).1
    simpa using this
   obtain ⟨b,o,hA,_,hc⟩:=h.at_ (by omega);injection hA with hA;subst hA;rw [Zz0m];refine hc j v ?_;rw [← hj,List.map_map];rfl)
  simp only [List.length_map] at hld;rw [hl] at hld;rw [run_bytesToString w a n c _ hld,foldl_push_bytes];congr 2
  unfold strB;congr 1
  have he0:ByteArray.empty.data= #[]:=rfl;rw [he0,Array.empty_append,List.map_map];congr 1
  apply List.map_congr_left
  intro x _;apply UInt8.toNat_inj.1
  have:=x.isLt
  simp
theorem Zz06 {w wr:World} {g:Nat} (h:w.grownBy wr (some g)) {k:Nat} (hk:k=g∨w.heap.size≤k) (j:Nat) (u:Value):w.grownBy (wr.setCell ⟨k,j,none⟩ u) (some g):=
 ⟨h.os,h.tape,h.output,by simpa [World.setCell] using h.size,fun i hi hne=>(Below.heap_setCell wr ⟨k,j,none⟩ u i (fun e=>by
  rcases hk with rfl | hk
  ·exact hne (by rw [e])
  ·have:i=k:=e
   omega)).trans (h.block i hi hne)⟩
theorem Zz13 {w w':World} (h:Below w.heap.size w w') (r:Option Nat):w.grownBy w' r:=⟨h.os,h.tape,h.output,h.size,fun k hk _=>h.block k hk⟩
theorem row4 {w:World} {g:Nat} {t:TypeId} {z0 z1 z2 z3:Value} (h:Row w g t [z0,z1,z2,z3]) (a0 a1 a2 a3:Value):Row ((((w.setCell ⟨g,0,none⟩ a0).setCell ⟨g,1,none⟩ a1).setCell ⟨g,2,none⟩ a2).setCell ⟨g,3,none⟩ a3) g t [a0,a1,a2,a3]:=(((h.set 0 a0).set 1 a1).set 2 a2).set 3 a3
theorem grown4 {w w':World} {r:Nat} (h:w.grownBy w' (some r)) {g:Nat} (hg:w.heap.size≤g) (a0 a1 a2 a3:Value):w.grownBy ((((w'.setCell ⟨g,0,none⟩ a0).setCell ⟨g,1,none⟩ a1).setCell ⟨g,2,none⟩ a2).setCell ⟨g,3,none⟩ a3) (some r):=
 Zz06 (Zz06 (Zz06 (Zz06 h (.inr hg) 0 a0) (.inr hg) 1 a1) (.inr hg) 2 a2) (.inr hg) 3 a3
theorem Zz4i:∀ (n:Nat) (st:RSt),(rdTries n st).1.length≤n
 | 0,_=>by simp [rdTries]
 | n+1,st=>by
  unfold rdTries;split
  ·simp
  ·have:=Zz4i n (rdNum 1 st).2
   simp
   omega
end Wells
namespace Go.Proofs.YtnknjeipfjdjoaaGreatDoor
open Go.RowKit Wells
theorem infoI:(Tryz.prog.info? 3).map (fun i=>(i.zero,i.size,i.bytes))=some (some (.int .i64 0),1,8):=by kernel_rfl
theorem Rd.grown {t:TypeId} {B g k:Nat} {w w':World} {st:RSt} (h:Rd t B w g st) (hg:w.grownBy w' (some k)) (hk:k≠g) (hB:B≤k) (hBw:B≤w.heap.size):Rd t B w' g st:=by
 obtain ⟨A,n,c,h1,h2,h3,h4,h5,h6⟩:=h;exact ⟨A,n,c,h1.grown hg (fun e=>by injection e with e;exact hk e.symm),h2.below ((Below.refl B w).grown hg hBw (fun q hq=>by injection hq with hq;omega)),h3,h4,h5,h6⟩
theorem Rd.lt {t:TypeId} {B g:Nat} {w:World} {st:RSt} (h:Rd t B w g st):g < w.heap.size∧B≤g:=by
 obtain ⟨A,n,c,h1,h2,h3,h4,h5,h6⟩:=h;exact ⟨h1.lt,h6⟩
theorem Rd.put_ {t:TypeId} {B g k:Nat} {w:World} {st:RSt} (h:Rd t B w g st) (hk:k≠g) (hB:B≤k) (i:Nat) (x:Value):Rd t B (w.setCell ⟨k,i,none⟩ x) g st:=
 h.grown (Zz06 (Zz13 (Below.refl _ _) (some k)) (.inl rfl) i x) hk hB (by have:=h.lt;omega)
theorem _root_.Go.World.ownsRow.far_ {base size n g:Nat} {w:World} {e t:TypeId} {v:Value} {xs cs:List Value} (h:w.ownsRow base e size v n xs) (hr:Row w g t cs) (hne:e≠t) (i:Nat) (x:Value):(w.setCell ⟨g,i,none⟩ x).ownsRow base e size v n xs:=
 h.kept (row:=some g) ⟨rfl,rfl,rfl,by simp [World.setCell],fun k _ hn=>Below.heap_setCell w ⟨g,i,none⟩ x k (fun e=>hn (by rw [e]))⟩ (by
  rcases Zz2i h hr hne with h1 | h1
  ·exact .inl h1
  ·exact .inr h1)
theorem Zz38 {t:TypeId} {base B size n g:Nat} {w:World} {e:TypeId} {v:Value} {xs:List Value} {st:RSt} (h:w.ownsRow base e size v n xs) (hr:Rd t B w g st) (hne:e≠t:=by decide):v.ownBlock=none∨v.ownBlock≠some g:=by
 obtain ⟨_,_,_,h1,_⟩:=hr;exact Zz2i h h1 hne
theorem Rd.drew_ {t:TypeId} {B g:Nat} {w:World} {st:RSt} (h:Rd t B w g st):Rd t B w.drew g st:=by
 obtain ⟨A,n,c,h1,h2,h3,h4,h5,h6⟩:=h;exact ⟨A,n,c,h1.drew,h2.drew,h3,h4,h5,h6⟩
theorem Rd.appd {t e:TypeId} {B g base size n:Nat} {w w1:World} {st:RSt} {v:Value} {xs:List Value} (h:Rd t B w g st) (hv:w.ownsRow base e size v n xs) (hg:w.grownBy w1 v.ownBlock) (hne:e≠t) (hB:B≤base):Rd t B w1 g st:=by
 have hl:=h.lt;obtain ⟨A,m,c,h1,h2,h3,h4,h5,h6⟩:=h;refine ⟨A,m,c,h1.grown hg ?_,h2.below ((Below.refl B w).grown hg (by omega) (fun k hk=>ZnT hB (hv.lt k hk).1)),h3,h4,h5,h6⟩;rcases Zz2i hv h1 hne with e1 | e1
 ·rw [e1];intro e2;cases e2
 ·exact fun e2=>e1 e2.symm
theorem Zz3q {w w1 w2:World} {r size n:Nat} {e:TypeId} {v:Value} {xs:List Value} (h:w.grownBy w1 (some r)) (hv:w1.ownsRow w.heap.size e size v n xs) (hg:w1.grownBy w2 v.ownBlock):w.grownBy w2 (some r):=
 ⟨hg.os.trans h.os,hg.tape.trans h.tape,hg.output.trans h.output,ZnT h.size hg.size,fun k hk hne=>(hg.block k (Nat.lt_of_lt_of_le hk h.size) (fun e=>by have:=(hv.lt k e.symm).1;omega)).trans (h.block k hk hne)⟩
def EntR (t:TypeId) (B g:Nat) (w:World) (x:Ent) (st':RSt) (e:Ending) (w':World):Prop:=
 ∃ A n c,e= .returned (x.val (.slice A n c))∧x.tries.length=n∧w'.ownsRow w.heap.size 3 1 (.slice A n c) n (x.tries.map iv)∧Rd t B w' g st'∧w.grownBy w' (some g)
theorem Zz85 (B g:Nat) (st:RSt) (P:Par) (w:World) (h:Rd 164 B w g st) (x:Ent) (st':RSt) (hs:rdEnt P st=(x,st')):
  Calls Tryz.prog 139 #[.pointer (some ⟨g,0,none⟩),P.val] w (EntR 164 B g w x st'):=by
 obtain ⟨i0,hi,hz0,hz1,hz2⟩:=info_parts infoI;obtain ⟨⟨z1,st1⟩,ha⟩:∃ q,rdNum 1 st=q:=⟨_,rfl⟩;have hz1b:=Zz0d 1 st;rw [ha] at hz1b;obtain ⟨n1,hn1⟩:∃ n:Nat,(n:Int)=z1:=⟨z1.toNat,by have:=hz1b.1;simp at this;omega⟩;subst hn1;obtain ⟨⟨nm,st2⟩,hb⟩:∃ q,rdSome n1 st1=q:=⟨_,rfl⟩;obtain ⟨⟨ob,st3⟩,hc⟩:∃ q,rdNum 3 st2=q:=⟨_,rfl⟩;obtain ⟨⟨ln,st4⟩,hd⟩:∃ q,rdNum 2 st3=q:=⟨_,rfl⟩;have hob:=Zz0d 3 st2;have hln:=Zz0d 2 st3;rw [hc] at hob;rw [hd] at hln;obtain ⟨cn,hcn⟩:∃ q,countP P ln=q:=⟨_,rfl⟩;obtain ⟨⟨trs,st5⟩,he⟩:∃ q,rdTries cn.toNat st4=q:=⟨_,rfl⟩;have hx:(x,st')=(⟨nm,ob,ln,trs⟩,st5):=by
  rw [← hs];unfold rdEnt;simp only [ha,hb,hc,hd,hcn,he,Int.toNat_natCast]
 injection hx with hx1 hx2;subst hx1 hx2;have hcb:=Zz5i P ln;rw [hcn] at hcb;have hz256:n1 < 256:=by have:=hz1b.2;simp at this;omega
 have hob1:0≤ob∧ob < 16777216:=by simpa using hob
 have hln1:0≤ln∧ln < 65536:=by simpa using hln
 have hcn1:0≤cn∧cn≤65536:=by have:=hcb.2 hln1.1;omega
 have HA:=hid ha;have HB2:=hid hb;have HC:=hid hc;have HD:=hid hd;have HCN:=hid hcn;have HE:=hid he;have htl:=Zz4i cn.toNat st4;rw [he] at htl;have HTL:=hid htl;have hgl:=h.lt;have hBs:B≤w.heap.size:=by omega
 have hp:=Row.new w 25 #[.int .i64 P.K,.int .i64 P.H,.int .i64 P.S];have hp2:=hp.alloc (.cells #[.string ⟨#[]⟩,.int .i64 0,.int .i64 0,.slice none 0 0] 61);have hr:=Row.new (w.alloc (.cells #[.int .i64 P.K,.int .i64 P.H,.int .i64 P.S] 25)) 61 #[.string ⟨#[]⟩,.int .i64 0,.int .i64 0,.slice none 0 0];have hb02:Below w.heap.size w ((w.alloc (.cells #[.int .i64 P.K,.int .i64 P.H,.int .i64 P.S] 25)).alloc (.cells #[.string ⟨#[]⟩,.int .i64 0,.int .i64 0,.slice none 0 0] 61)):=((Below.refl _ _).alloc (ZnR _) _).alloc (by simp) _
 have hsz2:((w.alloc (.cells #[.int .i64 P.K,.int .i64 P.H,.int .i64 P.S] 25)).alloc (.cells #[.string ⟨#[]⟩,.int .i64 0,.int .i64 0,.slice none 0 0] 61)).heap.size=w.heap.size+2:=by simp
 have hgs:(w.alloc (.cells #[.int .i64 P.K,.int .i64 P.H,.int .i64 P.S] 25)).heap.size=w.heap.size+1:=by simp
 rw [hgs] at hr;have hrd2:=h.keep hb02 hBs;clear hs ha hb hc hd hcn he hob hln hcb hz1b htl hp hgs h;unfold Par.val;go_enter Tryz.func139,Tryz.ntmps139;go_wp2_with fail;generalize (w.alloc (.cells #[.int .i64 P.K,.int .i64 P.H,.int .i64 P.S] 25)).alloc (.cells #[.string ⟨#[]⟩,.int .i64 0,.int .i64 0,.slice none 0 0] 61)=w2 at*;have hg1:g < w.heap.size:=hgl.1;have hne1:∀ k,w.heap.size≤k→some k≠some g:=fun k hk e=>by injection e with e;omega
 have HNE:=hid hne1;have G2:=Zz13 hb02 (some g);clear hne1;refine (Zz0t B g st 1 w2 hrd2 (by omega) _ st1 HA.out).mono ?_;rintro e w3 ⟨rfl,hrd3,hg3,hs3⟩;have hp3:=hp2.grown hg3 (HNE.out _ (ZnR _));have hr3:=hr.grown hg3 (HNE.out _ (by omega));have G3:=Zz0c G2 hg3 (.inl rfl);clear hrd2 hp2 hr hg3 G2;go_wp2_with fail;refine (Zz6u B g st1 n1 w3 hrd3 (by omega) nm st2 HB2.out).mono ?_;rintro e w4 ⟨⟨An,nn,cn',rfl,hnn,hsn⟩,hrd4,hg4,hs4⟩;have hp4:=hp3.grown hg4 (HNE.out _ (ZnR _));have hr4:=hr3.grown hg4 (HNE.out _ (by omega));have G4:=Zz0c G3 hg4 (.inl rfl);have hconv:=Zz2y (P:=Tryz.prog) (c:=cn') 33 9 5 Tryz.underlying33 Tryz.underlying5 Tryz.underlying9 hsn
 have hz4:w4.heap.size=w.heap.size+2:=by omega
 obtain ⟨gx,hgx⟩:∃ q,w4.heap.size=q:=⟨_,rfl⟩;have hgxe:gx=w.heap.size+2:=by omega
 have HGX:=hid hgx;have HGE:=hid hgxe;have hx5:=Row.new w4 61 #[.string (strB nm),.int .i64 0,.int .i64 0,.slice none 0 0];have hb5:=(Below.refl w4.heap.size w4).alloc (ZnR _) (.cells #[.string (strB nm),.int .i64 0,.int .i64 0,.slice none 0 0] 61);have hp5:=hp4.below hb5 hp4.lt;have hr5:=hr4.below hb5 hr4.lt;have hrd5:=hrd4.keep hb5 (by omega);have G5:=Zz0o G4 hb5;have hs5:(w4.alloc (.cells #[.string (strB nm),.int .i64 0,.int .i64 0,.slice none 0 0] 61)).heap.size=w4.heap.size+1:=by simp
 clear hrd3 hp3 hr3 G3 hnn hsn hrd4 hg4 hp4 hr4 G4 hgx hgxe hs3 hs4 hz4 hsz2;go_wp2_with fail;generalize w4.alloc (.cells #[.string (strB nm),.int .i64 0,.int .i64 0,.slice none 0 0] 61)=w5 at*;rw [HGX.out] at hx5 hs5;have hs5':w5.heap.size=w.heap.size+3:=by have:=HGE.out;omega
 have HS5:=hid hs5';clear hs5 hs5' hb5 hconv;rw [HGX.out];refine (Zz0t B g st2 3 w5 hrd5 (by omega) ob st3 HC.out).mono ?_;rintro e w6 ⟨rfl,hrd6,hg6,hs6⟩;have hgxw:w.heap.size≤gx:=by have:=HGE.out;omega
 have hp6:=hp5.grown hg6 (HNE.out _ (ZnR _));have hr6:=hr5.grown hg6 (HNE.out _ (by omega));have hx6:=hx5.grown hg6 (HNE.out _ hgxw);have G6:=Zz0c G5 hg6 (.inl rfl);clear hrd5 hp5 hr5 hx5 hg6 G5;go_wp2_with fail;refine (Zz0t B g st3 2 w6 hrd6 (by omega) ln st4 HD.out).mono ?_;rintro e w7 ⟨rfl,hrd7,hg7,hs7⟩;have hp7:=hp6.grown hg7 (HNE.out _ (ZnR _));have hr7:=hr6.grown hg7 (HNE.out _ (by omega));have hx7:=hx6.grown hg7 (HNE.out _ hgxw);have G7:=Zz0c G6 hg7 (.inl rfl);have hz7:w7.heap.size=w.heap.size+3:=by have:=HS5.out;omega
 have k1:=hx7.cell 1;have k2:=hx7.cell 2;have z1:=hx7.frozen 1;have z2:=hx7.frozen 2;simp only [ZgZ,ZgS] at k1 k2;have hx8:=(hx7.set 1 (.int .i64 ob)).set 2 (.int .i64 ln);have G8:=Zz06 (Zz06 G7 (k:=gx) (.inr hgxw) 1 (.int .i64 ob)) (k:=gx) (.inr hgxw) 2 (.int .i64 ln);have hgx7:=HGE.out;have hp8:=(hp7.far (p:=⟨gx,1,none⟩) (by show w.heap.size≠gx;omega) (.int .i64 ob)).far (p:=⟨gx,2,none⟩) (by show w.heap.size≠gx;omega) (.int .i64 ln);have hr8:=(hr7.far (p:=⟨gx,1,none⟩) (by show w.heap.size+1≠gx;omega) (.int .i64 ob)).far (p:=⟨gx,2,none⟩) (by show w.heap.size+1≠gx;omega) (.int .i64 ln);have hrd8:Rd 164 B ((w7.setCell ⟨gx,1,none⟩ (.int .i64 ob)).setCell ⟨gx,2,none⟩ (.int .i64 ln)) g st4:=
  (hrd7.grown (Zz06 (Zz13 (Below.refl _ _) (some gx)) (.inl rfl) 1 (.int .i64 ob)) (by omega) (by omega) (by omega)).grown (Zz06 (Zz13 (Below.refl _ _) (some gx)) (.inl rfl) 2 (.int .i64 ln)) (by omega) (by omega) (by simp [World.setCell];omega)
 have hz8:((w7.setCell ⟨gx,1,none⟩ (.int .i64 ob)).setCell ⟨gx,2,none⟩ (.int .i64 ln)).heap.size=w.heap.size+3:=by simp [World.setCell];omega
 clear hrd6 hp6 hr6 hx6 hg7 G6 hgx7;go_upto_region 3 with fail;generalize (w7.setCell ⟨gx,1,none⟩ (.int .i64 ob)).setCell ⟨gx,2,none⟩ (.int .i64 ln)=w8 at*;clear k1 k2 z1 z2 hx7 hp7 hr7 hrd7 G7 hz7;have p0:=hp8.cell 0;have p1:=hp8.cell 1;have p2:=hp8.cell 2;have x2:=hx8.cell 2;simp only [ZgZ,ZgS,List.set_cons_succ,List.set_cons_zero] at p0 p1 p2 x2;have HX8:=hid hx8;clear hp8 hx8;go_wp2_with fail;refine (Zz92 P ln cn w8 (by omega) HCN.out).mono ?_;rintro e w9 ⟨rfl,hb9⟩;obtain ⟨cN,hcN⟩:∃ n:Nat,(n:Int)=cn:=⟨cn.toNat,by omega⟩;subst hcN;have HEN:=HE.out;have HTN:=HTL.out;rw [Int.toNat_natCast] at HEN HTN;have HEN':=hid HEN;have hcNb:cN≤65536:=by omega
 have hx9:=HX8.out.below hb9 HX8.out.lt;have hr9:=hr8.below hb9 hr8.lt;have hrd9:=hrd8.keep hb9 (by omega);have G9':=Zz0o G8 hb9;have hz9:w.heap.size+3≤w9.heap.size:=by have:=hb9.size;omega
 have hgxl:gx < w.heap.size+3:=by have:=HGE.out;omega
 have HX9:=hid hx9;have HR9:=hid hr9;have HRD9:=hid hrd9;have HG9:=hid G9';clear HEN HTN hx9 hr9 hrd9 G9' hr8 hrd8 G8 p0 p1 p2 x2 hb9;go_wp2_with fail;go_loopw [22] (fun i wr=>∃ (k:Nat) (ts:List Int) (A:Option Addr) (c:Nat) (sk:RSt),k≤cN∧i= .int .i64 k∧ts.length=k∧Hid (ts++(rdTries (cN - k) sk).1=trs∧(rdTries (cN - k) sk).2=st')∧Rd 164 B wr g sk∧Row wr gx 61 [.string (strB nm),.int .i64 ob,.int .i64 ln,.slice A k c]∧Row wr (w.heap.size+1) 61 [.string ⟨#[]⟩,.int .i64 0,.int .i64 0,.slice none 0 0]∧wr.ownsRow w.heap.size 3 1 (.slice A k c) k (ts.map iv)∧w.grownBy wr (some g)) (fun i _=>cN - (intOf i).toNat)
 case atStart=>exact ⟨0, [],none,0,st4,by omega,rfl,rfl,hid (by rw [Nat.sub_zero,HEN'.out];exact ⟨rfl,rfl⟩),HRD9.out,HX9.out,HR9.out,World.ownsRow_nil _ _ _ _,HG9.out⟩
 case round=>
  obtain ⟨k,ts,A,c,sk,hk,rfl,hlk,HT,hrd,hxr,hrr,how,hgr⟩:=hrel;have GR:=hid hgr;have HRR:=hid hrr;have HLK:=hid hlk;clear hgr hlk;by_cases hlt:k < cN
  ·obtain ⟨m,hm⟩:∃ m,cN - k=m+1:=⟨cN - k - 1,by omega⟩
   have hT:=HT.out;rw [hm] at hT;have hgc:wr.cell? ⟨g,1,none⟩=some (.bool sk.2):=by
    obtain ⟨_,_,_,h1,_⟩:=hrd;exact h1.cell 1
   cases hbad:sk.2 with
   | true=>
    rw [hbad] at hgc;have hT2:trs=ts∧st'=sk:=by
     unfold rdTries at hT;rw [if_pos hbad] at hT;exact ⟨by rw [← hT.1,List.append_nil],hT.2.symm⟩
    have HT2:=hid hT2;clear hT2 hT hbad hm;obtain ⟨y0,y1,y2,y3⟩:=ECells.of_row (x:=⟨nm,ob,ln,trs⟩) (tv:= .slice A k c) hxr;dsimp only at y0 y1 y2 y3;have r0:=hrr.cell 0;have r1:=hrr.cell 1;have r2:=hrr.cell 2;have r3:=hrr.cell 3;have v0:=hrr.frozen 0;have v1:=hrr.frozen 1;have v2:=hrr.frozen 2;have v3:=hrr.frozen 3;simp only [ZgS,ZgZ] at r0 r1 r2 r3;have R4:=hid (row4 hrr (.string (strB nm)) (.int .i64 ob) (.int .i64 ln) (.slice A k c));have G9:=hid (grown4 GR.out (g:=w.heap.size+1) (by omega) (.string (strB nm)) (.int .i64 ob) (.int .i64 ln) (.slice A k c));have HOW:=hid how;have HRD:=hid hrd;clear hxr hrr how hrd;go_wp2_with fail;have q0:=R4.out.cell 0;have q1:=R4.out.cell 1
    have q2:=R4.out.cell 2;have q3:=R4.out.cell 3;simp only [ZgS,ZgZ] at q0 q1 q2 q3;refine bodyPost_ret (v:=(⟨nm,ob,ln,trs⟩:Ent).val (.slice A k c)) ?_ rfl ⟨A,k,c,rfl,by rw [HT2.out.1];exact HLK.out,?_,?_,G9.out⟩
    ·simp [results,Tryz.results139,go_sem,q0,q1,q2,q3]
     rfl
    ·have hf:=(((HOW.out.far_ HRR.out (by decide) 0 (.string (strB nm))).far_ (HRR.out.set 0 _) (by decide) 1 (.int .i64 ob)).far_ ((HRR.out.set 0 _).set 1 _) (by decide) 2 (.int .i64 ln)).far_ (((HRR.out.set 0 _).set 1 _).set 2 _) (by decide) 3 (.slice A k c)
     rw [show (⟨nm,ob,ln,trs⟩:Ent).tries=ts from HT2.out.1];exact hf
    ·rw [HT2.out.2]
     have hr1:w.heap.size+1≠g:=by omega
     exact (((HRD.out.put_ hr1 (by omega) 0 (.string (strB nm))).put_ hr1 (by omega) 1 (.int .i64 ob)).put_ hr1 (by omega) 2 (.int .i64 ln)).put_ hr1 (by omega) 3 (.slice A k c)
   | false=>
    rw [hbad] at hgc;obtain ⟨⟨zv,sk2⟩,hz⟩:∃ q,rdNum 1 sk=q:=⟨_,rfl⟩;have hzb:=Zz0d 1 sk;rw [hz] at hzb;have hT2:(ts++ [zv])++(rdTries m sk2).1=trs∧(rdTries m sk2).2=st':=by
     unfold rdTries at hT;rw [if_neg (by rw [hbad];simp),hz] at hT;exact ⟨by rw [← hT.1,List.append_assoc];rfl,hT.2⟩
    have hm2:cN - (k+1)=m:=by omega
    rw [← hm2] at hT2;have HT2:=hid hT2;have HZ:=hid hz;have HXR:=hid hxr;have HRD:=hid hrd;have x3:wr.drew.cell? ⟨gx,3,none⟩=some (.slice A k c):=hxr.cell 3;have hgl2:w.heap.size≤wr.heap.size:=GR.out.size;have hgx2:gx < wr.heap.size:=hxr.lt;have HOW:=hid how;clear hT hT2 hm hm2 hz hzb hbad hxr hrd how;go_wp2_with fail;go_region_law (first
     | (refine step_append_lies _ rfl (.tmp 29) (.tmp 32) 22 rfl w.heap.size 3 i0 (.int .i64 0) 1 8 Tryz.underlying22 hi hz0 hz1 hz2 rfl (by omega) (.slice A k c) k (ts.map iv) rfl ((how3.alloc _)) ⟨w3.heap.size,0,none⟩ 1 1 [.int .i64 zv] rfl rfl (World.news_of_block (heap_alloc_new w3 _)) (by simp [Value.oneCell']) (by omega) (by unfold maxLen;omega) (by omega) (by rw [show (w3.alloc (.cells #[.int .i64 zv] 3)).heap.size=w3.heap.size+1 by simp,HS3.out];exact ZnT hgl2 (Nat.le_succ _)) _ rfl ?_;intro ga ca wa oa gra hwha hlta;have hxa:=(hx3.alloc (.cells #[.int .i64 zv] 3)).appd1 (how3.alloc _) gra (by decide);have fa:=hxa.frozen 3;have ca3:=hxa.cell 3;simp only [ZgS,ZgZ] at ca3)
     | (go_simp;go_at_call 138;refine (Zz0t B g sk 1 wr.drew HRD.out.drew_ (by omega) zv sk2 HZ.out).mono ?_;rintro e w3 ⟨rfl,hrd3,hg3,hs3⟩;have HS3:=hid hs3;clear hs3;have hx3:=(Row.drew HXR.out).grown hg3 (HNE.out _ hgxw);have how3:=(World.ownsRow.drew_ HOW.out).kept hg3 (Zz38 HOW.out HRD.out);have x3':=hx3.cell 3;simp only [ZgS,ZgZ] at x3';have x3'':=Zz00 ((Below.refl w3.heap.size w3).alloc (ZnR _) (.cells #[.int .i64 zv] 3)) x3'))
    all_goals
     have how4:=how3.alloc (.cells #[.int .i64 zv] 3);have hrr4:=((Row.drew HRR.out).grown hg3 (HNE.out _ (by omega))).alloc (.cells #[.int .i64 zv] 3);have hrra:=hrr4.appd1 how4 gra (by decide);have hrd4:=hrd3.keep ((Below.refl w3.heap.size w3).alloc (ZnR _) (.cells #[.int .i64 zv] 3)) (by rw [HS3.out];exact ZnT hBs hgl2);have hrda:=hrd4.appd how4 gra (by decide) hBs;have hga:=Zz3q (Zz0o (Zz0c GR.out (show wr.grownBy w3 (some g) from ⟨hg3.os,hg3.tape,hg3.output,hg3.size,hg3.block⟩) (.inl rfl)) ((Below.refl w3.heap.size w3).alloc (ZnR _) (.cells #[.int .i64 zv] 3))) how4 gra;have hxf:=hid (hxa.set 3 (.slice (some ⟨ga,0,none⟩) (k+1) ca))
     have hrrf:=hid (hrra.far (p:=⟨gx,3,none⟩) (by show w.heap.size+1≠gx;have:=HGE.out;omega) (.slice (some ⟨ga,0,none⟩) (k+1) ca));have hrdf:=hid (hrda.put_ (k:=gx) (by have:=HGE.out;omega) (by omega) 3 (.slice (some ⟨ga,0,none⟩) (k+1) ca));have hoaf:=hid (oa.far_ hxa (by decide) 3 (.slice (some ⟨ga,0,none⟩) (k+1) ca));have hgaf:=hid (Zz06 hga (k:=gx) (.inr hgxw) 3 (.slice (some ⟨ga,0,none⟩) (k+1) ca));clear how4 hrr4 hrra hrd4 hrda hga hxa oa gra hwha hlta how3 hx3 hg3 hrd3 x3' x3'' fa ca3 x3;go_wp2_with fail;go_roundw
     case rel=>exact ⟨k+1,ts++ [zv],some ⟨ga,0,none⟩,ca,sk2,by omega,by go_num,by rw [List.length_append,HLK.out];rfl,HT2,hrdf.out,hxf.out,hrrf.out,by have:=hoaf.out;rw [List.map_append];exact this,hgaf.out⟩
     case measure=>simp [intOf];omega
  ·have hkc:k=cN:=by omega
   have hT2:trs=ts∧st'=sk:=by
    have hT:=HT.out;rw [hkc,Nat.sub_self] at hT;unfold rdTries at hT;exact ⟨by rw [← hT.1,List.append_nil],hT.2.symm⟩
   have HT2:=hid hT2;clear hT2 hkc;obtain ⟨y0,y1,y2,y3⟩:=ECells.of_row (x:=⟨nm,ob,ln,trs⟩) (tv:= .slice A k c) hxr;dsimp only at y0 y1 y2 y3;have r0:=hrr.cell 0;have r1:=hrr.cell 1;have r2:=hrr.cell 2;have r3:=hrr.cell 3;have v0:=hrr.frozen 0;have v1:=hrr.frozen 1;have v2:=hrr.frozen 2;have v3:=hrr.frozen 3;simp only [ZgS,ZgZ] at r0 r1 r2 r3;have R4:=hid (row4 hrr (.string (strB nm)) (.int .i64 ob) (.int .i64 ln) (.slice A k c));have G9:=hid (grown4 GR.out (g:=w.heap.size+1) (by omega) (.string (strB nm)) (.int .i64 ob) (.int .i64 ln) (.slice A k c));have HOW:=hid how;have HRD:=hid hrd;clear hxr hrr how hrd;go_wp2_with fail;have q0:=R4.out.cell 0;have q1:=R4.out.cell 1;have q2:=R4.out.cell 2
   have q3:=R4.out.cell 3;simp only [ZgS,ZgZ] at q0 q1 q2 q3;refine bodyPost_ret (v:=(⟨nm,ob,ln,trs⟩:Ent).val (.slice A k c)) ?_ rfl ⟨A,k,c,rfl,by rw [HT2.out.1];exact HLK.out,?_,?_,G9.out⟩
   ·simp [results,Tryz.results139,go_sem,q0,q1,q2,q3]
    rfl
   ·have hf:=(((HOW.out.far_ HRR.out (by decide) 0 (.string (strB nm))).far_ (HRR.out.set 0 _) (by decide) 1 (.int .i64 ob)).far_ ((HRR.out.set 0 _).set 1 _) (by decide) 2 (.int .i64 ln)).far_ (((HRR.out.set 0 _).set 1 _).set 2 _) (by decide) 3 (.slice A k c)
    rw [show (⟨nm,ob,ln,trs⟩:Ent).tries=ts from HT2.out.1];exact hf
   ·rw [HT2.out.2]
    have hr1:w.heap.size+1≠g:=by omega
    exact (((HRD.out.put_ hr1 (by omega) 0 (.string (strB nm))).put_ hr1 (by omega) 1 (.int .i64 ob)).put_ hr1 (by omega) 2 (.int .i64 ln)).put_ hr1 (by omega) 3 (.slice A k c)
theorem infoE:(Tryz.prog.info? 61).map (fun i=>(i.zero,i.size,i.bytes))=some (some (.agg #[.string ⟨#[]⟩,.int .i64 0,.int .i64 0,.slice none 0 0]),4,56):=by kernel_rfl
structure OEs (base:Nat) (w:World) (v:Value) (ts:List Value) (es:List Ent):Prop where
 own:w.ownsRow base 61 4 v es.length (entsC es ts)
 tl:ts.length=es.length
 at_:∀ i,i < es.length→∃ A c,ts.getD i undef= .slice A (es.getD i default).tries.length c∧w.ownsRow base 3 1 (.slice A (es.getD i default).tries.length c) (es.getD i default).tries.length ((es.getD i default).tries.map iv)
section
variable {base:Nat} {w w':World} {v v':Value} {ts:List Value} {es:List Ent}
theorem OEs.nil_ (base:Nat) (w:World):OEs base w (.slice none 0 0) [] []:=⟨World.ownsRow_nil _ _ _ _,rfl,fun i hi=>absurd hi (by simp)⟩
theorem OEs.below (h:OEs base w v ts es) (hb:Below w.heap.size w w'):OEs base w' v ts es:=
 ⟨h.own.kept (Zz02 hb none) (by cases v.ownBlock <;> simp),h.tl,fun i hi=>by
  obtain ⟨A,c,e,ho⟩:=h.at_ i hi;exact ⟨A,c,e,ho.kept (Zz02 hb none) (by cases (Value.slice A _ c).ownBlock <;> simp)⟩⟩
theorem OEs.other {g:Nat} {t:TypeId} {cs:List Value} (h:OEs base w v ts es) (hg:w.grownBy w' (some g)) (hr:Row w g t cs) (h1:61≠t) (h2:3≠t):OEs base w' v ts es:=
 ⟨h.own.kept hg (Zz2i h.own hr h1),h.tl,fun i hi=>by
  obtain ⟨A,c,e,ho⟩:=h.at_ i hi;exact ⟨A,c,e,ho.kept hg (Zz2i ho hr h2)⟩⟩
theorem OEs.drew_ (h:OEs base w v ts es):OEs base w.drew v ts es:=⟨h.own,h.tl,h.at_⟩
theorem OEs.form (h:OEs base w v ts es):∃ A c,v= .slice A es.length c∧es.length≤c∧c≤9223372036854775807:=by
 obtain ⟨A,c,e,h1,h2,_⟩:=Zz0h h.own;exact ⟨A,c,e,h1,h2⟩
theorem OEs.push {tv:Value} {x:Ent} (h:OEs base w v ts es) {A:Option Addr} {c:Nat} (htv:tv= .slice A x.tries.length c) (hx:w.ownsRow base 3 1 tv x.tries.length (x.tries.map iv))
  (ho:w'.ownsRow base 61 4 v' (es.length+1) (entsC es ts++x.cells tv)) (hg:w.grownBy w' v.ownBlock):OEs base w' v' (ts++ [tv]) (es++ [x]):=by
 refine ⟨by rw [Zz6s x tv es ts h.tl.symm];simpa using ho,by simp [h.tl],fun i hi=> ?_⟩;simp only [List.length_append,List.length_singleton] at hi;by_cases hlt:i < es.length
 ·rw [ZgD,ZgD,List.getElem?_append_left (by rw [h.tl];exact hlt),List.getElem?_append_left hlt,← ZgD,← ZgD]
  obtain ⟨A',c',e,ho'⟩:=h.at_ i hlt;exact ⟨A',c',e,ho'.kept hg (Zz0i ho' h.own (by decide))⟩
 ·have he:i=es.length:=by omega
  subst he;rw [ZgD,ZgD,List.getElem?_append_right (by rw [h.tl];exact ZnR _),List.getElem?_append_right (ZnR _),h.tl];simp only [Nat.sub_self,ZgZ,Option.getD_some];exact ⟨A,c,htv,by rw [← htv];exact hx.kept hg (Zz0i hx h.own (by decide))⟩
theorem OEs.read {A:Option Addr} {n c:Nat} (h:OEs base w (.slice A n c) ts es) (hn:es.length=n):REs w w.heap.size A n ts es:=by
 subst hn;refine ⟨Sl.own h.own,rfl,h.tl,fun i hi=> ?_⟩;obtain ⟨A',c',e,ho⟩:=h.at_ i hi;have hc:=Zz14 ho;exact ⟨A',c',e,hc.1,hc.2,Sl.own ho⟩
end
structure OM (base:Nat) (w:World) (m:Mani) (Ad:Option Addr) (nd cd:Nat) (Ao:Option Addr) (no co:Nat) (ts:List Value):Prop where
 d:w.ownsRow base 3 1 (.slice Ad nd cd) nd (m.drives.map iv)
 dl:m.drives.length=nd
 o:OEs base w (.slice Ao no co) ts m.objs
 ol:m.objs.length=no
theorem OM.read {base:Nat} {w:World} {m:Mani} {Ad Ao:Option Addr} {nd cd no co:Nat} {ts:List Value} (h:OM base w m Ad nd cd Ao no co ts):RM w w.heap.size m Ad nd cd Ao no co ts:=by
 refine ⟨Sl.own h.d,h.dl,Zz14 h.d,h.o.read h.ol,?_⟩;have:=h.o.own
 rw [h.ol] at this;exact Zz14 this
theorem OM.below {base:Nat} {w w':World} {m:Mani} {Ad Ao:Option Addr} {nd cd no co:Nat} {ts:List Value} (h:OM base w m Ad nd cd Ao no co ts) (hb:Below w.heap.size w w'):OM base w' m Ad nd cd Ao no co ts:=
 ⟨h.d.kept (Zz02 hb none) (by cases (Value.slice Ad nd cd).ownBlock <;> simp),h.dl,h.o.below hb,h.ol⟩
end Go.Proofs.YtnknjeipfjdjoaaGreatDoor
namespace Wells
open Go Go.RowKit
def rdEnts (P:Par):Nat→RSt→List Ent×RSt
 | 0,st=>([],st)
 | n+1,st=>if st.2 then ([],st) else ((rdEnt P st).1::(rdEnts P n (rdEnt P st).2).1,(rdEnts P n (rdEnt P st).2).2)
def rdMani (st:RSt):Mani×RSt:=
 let a:=rdNum 4 st
 let b:=rdNum 4 a.2
 let k:=rdNum 1 b.2
 let h:=rdNum 1 k.2
 let s:=rdNum 1 h.2
 let x:=rdNum 1 s.2
 let n:=rdNum 1 x.2
 let d:=rdTries n.1.toNat n.2
 let m:=rdNum 1 d.2
 let o:=rdEnts ⟨k.1,h.1,s.1⟩ m.1.toNat m.2
 (⟨a.1,b.1,⟨k.1,h.1,s.1⟩,x.1,d.1,o.1⟩,o.2)
def Mani.zero:Mani:=⟨0,0,⟨0,0,0⟩,0, [], []⟩
def parseL (l:List Byte):Option Mani:=if (rdMani (l,false)).2.2=false∧l≠ []∧l=pack (rdMani (l,false)).1 then some (rdMani (l,false)).1 else none
theorem Zz1z:∀ (n:Nat) (st:RSt),∀ z∈(rdTries n st).1,0≤z∧z < 256
 | 0,_,z,hz=>by simp [rdTries] at hz
 | n+1,st,z,hz=>by
  unfold rdTries at hz;split at hz
  ·simp at hz
  ·rcases List.mem_cons.1 hz with rfl | hz
   ·have:=Zz0d 1 st
    simpa using this
   ·exact Zz1z n _ z hz
theorem Zzh5 (P:Par) (st:RSt):(0≤(rdEnt P st).1.obj∧(rdEnt P st).1.obj < 16777216)∧(0≤(rdEnt P st).1.len∧(rdEnt P st).1.len < 65536)∧(∀ z∈(rdEnt P st).1.tries,0≤z∧z < 256)∧(rdEnt P st).1.name.length≤255:=by
 unfold rdEnt;dsimp only;refine ⟨by simpa using Zz0d 3 _,by simpa using Zz0d 2 _,fun z hz=>Zz1z _ _ z hz,?_⟩;have h1:=(Zz5d (rdNum 1 st).1.toNat (rdNum 1 st).2).1;have h2:=Zz0d 1 st;simp at h2
 omega
theorem Zz9h (P:Par):∀ (n:Nat) (st:RSt),∀ e∈(rdEnts P n st).1,(0≤e.obj∧e.obj < 16777216)∧(0≤e.len∧e.len < 65536)∧(∀ z∈e.tries,0≤z∧z < 256)∧e.name.length≤255
 | 0,_,z,hz=>by simp [rdEnts] at hz
 | n+1,st,z,hz=>by
  unfold rdEnts at hz;split at hz
  ·simp at hz
  ·rcases List.mem_cons.1 hz with rfl | hz
   ·exact Zzh5 P st
   ·exact Zz9h P n _ z hz
theorem Zz9z (st:RSt):∃ (s0 s1 s2 s3 s4 s5 s6 s7:RSt) (n1 n2:Nat) (P:Par),(rdMani st).1=⟨(rdNum 4 s0).1,(rdNum 4 s1).1,⟨(rdNum 1 s2).1,(rdNum 1 s3).1,(rdNum 1 s4).1⟩,(rdNum 1 s5).1,(rdTries n1 s6).1,(rdEnts P n2 s7).1⟩:=
 ⟨_,_,_,_,_,_,_,_,_,_,_,rfl⟩
theorem Zz80 (st:RSt):M64 (rdMani st).1∧∀ e∈(rdMani st).1.objs,e.name.length≤1048576:=by
 have b1:∀ k,k≤4→∀ s,i64 (rdNum k s).1:=fun k hk s=>by
  have h:=Zz0d k s;have:(256:Int) ^ k≤4294967296:=by
   rcases (show k=0∨k=1∨k=2∨k=3∨k=4 by omega) with rfl | rfl | rfl | rfl | rfl <;> decide+kernel
  unfold i64;omega
 have b4:=b1 4 (by omega);have b0:=b1 1 (by omega);have ht:∀ n s,∀ z∈(rdTries n s).1,i64 z:=fun n s z hz=>by
  have:=Zz1z n s z hz
  unfold i64;omega
 have he:∀ P n s,∀ e∈(rdEnts P n s).1,(i64 e.obj∧i64 e.len∧∀ z∈e.tries,i64 z)∧e.name.length≤1048576:=fun P n s e he=>by
  have:=Zz9h P n s e he
  refine ⟨⟨by unfold i64;omega,by unfold i64;omega,fun z hz=> ?_⟩,by omega⟩;have:=this.2.2.1 z hz
  unfold i64;omega
 obtain ⟨s0,s1,s2,s3,s4,s5,s6,s7,n1,n2,P,e⟩:=Zz9z st;rw [e];exact ⟨⟨b4 _,b4 _,b0 _,b0 _,b0 _,b0 _,ht _ _,fun e h=>(he _ _ _ e h).1⟩,fun e h=>(he _ _ _ e h).2⟩
def rfSome (n:Nat) (st:RSt):List Byte×RSt:=if st.1.length < n then (List.replicate n 0,(st.1,true)) else (st.1.take n,(st.1.drop n,st.2))
theorem Zzb7 (n:Nat):numL (List.replicate n (0:Byte))=0:=by
 unfold numL;induction n with
 | zero=>rfl
 | succ n ih=>simpa [List.replicate_succ] using ih
theorem Zzh7 (k:Nat) (st:RSt):(numL (rfSome k st).1,(rfSome k st).2)=rdNum k st:=by
 unfold rfSome rdNum rdSome;split
 ·rw [Zzb7];rfl
 ·rfl
theorem Zz6z (n:Nat) (st:RSt):(rfSome n st).1.length=n:=by
 unfold rfSome;split
 ·simp
 ·simp;omega
end Wells
namespace Go.Proofs.YtnknjeipfjdjoaaGreatDoor
open Go.RowKit Wells
def TakeP (t:TypeId) (B g:Nat) (w:World) (out:List Byte) (st':RSt) (e:Ending) (w':World):Prop:=
 (∃ A' n' c',e= .returned (.slice A' n' c')∧out.length=n'∧n'≤c'∧Sl w' w'.heap.size 1 A' n' (out.map bv8))∧Rd t B w' g st'∧w.grownBy w' (some g)
theorem Zz6e (B g:Nat) (st:RSt) (n:Nat) (w:World) (h:Rd 139 B w g st) (hn:n≤1048576) (out:List Byte) (st':RSt) (hs:rfSome n st=(out,st')):
  Calls Tryz.prog 107 #[.pointer (some ⟨g,0,none⟩),.int .i64 n] w (TakeP 139 B g w out st'):=by
 obtain ⟨i0,hi,hz0,hz1,hz2⟩:=info_parts infoB;obtain ⟨A,m,c,hr,hsl,hlm,hmc,hc,hBg⟩:=h;have c0:=hr.cell 0;have c1:=hr.cell 1;have f0:=hr.frozen 0;have f1:=hr.frozen 1;simp only [ZgZ,ZgS] at c0 c1;have HS:=hid hs;have HLM:=hid hlm;have HR:=hid hr;have HSL:=hid hsl;have hgl:=hr.lt;clear hs hlm hr hsl;by_cases hlt:m < n
 ·have e1:(out,st')=(List.replicate n 0,(st.1,true)):=by rw [← HS.out];unfold rfSome;rw [if_pos (by rw [HLM.out];exact hlt)]
  injection e1 with e1 e2;subst e1 e2;have hlti:(m:Int) < (n:Int):=by omega
  have hr2:=HR.out.set 1 (.bool true);have hg:w.grownBy (w.setCell ⟨g,1,none⟩ (.bool true)) (some g):=Zz06 (Zz13 (Below.refl _ _) (some g)) (.inl rfl) 1 (.bool true);have hs2:Sl (w.setCell ⟨g,1,none⟩ (.bool true)) B 1 A m (st.1.map bv8):=HSL.out.below ((Below.refl B w).grown hg (by omega) (fun k hk=>by injection hk with hk;omega));have hz1':(w.setCell ⟨g,1,none⟩ (.bool true)).heap.size=w.heap.size:=by simp [World.setCell]
  have HR2:=hid hr2;have HG2:=hid hg;have HS2:=hid hs2;have HZ1:=hid hz1';clear hr2 hg hs2 hz1';go_enter Tryz.func107,Tryz.ntmps107;go_wp2_with (at_make;refine Zz7g _ rfl (.tmp 16) (.tmp 16) 33 rfl 5 i0 (.int .u8 0) 1 Tryz.underlying33 hi hz0 hz1 hz2 rfl .i64 .i64 _ _ n n rfl rfl rfl (by omega) (by omega) (by omega) (by omega) ?_;intro w3 r3 b3 s3)
  have hd3:Rd 139 B w3 g (st.1,true):=⟨A,m,c,HR2.out.below b3 HR2.out.lt,HS2.out.below (b3.mono (by rw [HZ1.out];omega)),HLM.out,hmc,hc,hBg⟩;have hsl3:=r3.sl (B:=w3.heap.size) (m:=n) r3.lt (by simp);rw [ZtL (by simp),HZ1.out] at hsl3;have e3:(List.replicate n (0:Byte)).map bv8=List.replicate n (.int .u8 0):=by rw [List.map_replicate];rfl
  go_ret
  exact ⟨⟨_,n,n,rfl,by simp,ZnR _,by rw [e3];exact hsl3⟩,hd3,Zz0o HG2.out b3⟩
 ·have hge:n≤m:=by omega
  have e1:(out,st')=(st.1.take n,(st.1.drop n,st.2)):=by rw [← HS.out];unfold rfSome;rw [if_neg (by rw [HLM.out];exact hlt)]
  injection e1 with e1 e2;subst e1 e2;have hlti:¬ (m:Int) < (n:Int):=by omega
  have hnc:(n:Int)≤(c:Int):=by omega
  have hnm:(n:Int)≤(m:Int):=by omega
  by_cases hcn:c=n
  ·subst hcn
   obtain rfl:m=c:=by omega
   go_enter Tryz.func107,Tryz.ntmps107;go_wp2_with fail;go_ret
   have hr2:=HR.out.set 0 (.slice A 0 0);have hg:w.grownBy (w.setCell ⟨g,0,none⟩ (.slice A 0 0)) (some g):=Zz06 (Zz13 (Below.refl _ _) (some g)) (.inl rfl) 0 _;have hs2:Sl (w.setCell ⟨g,0,none⟩ (.slice A 0 0)) B 1 A m (st.1.map bv8):=HSL.out.below ((Below.refl B w).grown hg (by omega) (fun k hk=>by injection hk with hk;omega));have htk:st.1.take m=st.1:=ZtL (by rw [HLM.out];exact ZnR _);have hdr:st.1.drop m= []:=List.drop_of_length_le (by rw [HLM.out];exact ZnR _);have hz2':(w.setCell ⟨g,0,none⟩ (.slice A 0 0)).heap.size=w.heap.size:=by simp [World.setCell]
   refine ⟨⟨A,m,m,rfl,by rw [htk];exact HLM.out,ZnR _,by rw [htk];exact hs2.mono (by rw [hz2'];omega)⟩,⟨A,0,0,hr2,?_,by rw [hdr];rfl,by omega,by omega,hBg⟩,hg⟩;rw [hdr];exact Sl.nil_
  ·have hcn2:¬ (c:Int)=(n:Int):=by omega
   go_enter Tryz.func107,Tryz.ntmps107;go_wp2_with fail;go_ret
   obtain ⟨V,hV⟩:∃ V,Value.slice (Option.map (fun x=>x.add n) A) (m - n) (c - n)=V:=⟨_,rfl⟩;rw [hV];have hr2:=HR.out.set 0 V;have hg:w.grownBy (w.setCell ⟨g,0,none⟩ V) (some g):=Zz06 (Zz13 (Below.refl _ _) (some g)) (.inl rfl) 0 _;have hs2:Sl (w.setCell ⟨g,0,none⟩ V) B 1 A m (st.1.map bv8):=HSL.out.below ((Below.refl B w).grown hg (by omega) (fun k hk=>by injection hk with hk;omega));have ht:=hs2.take hge;rw [Nat.mul_one,← List.map_take] at ht;have hcut:=hs2.cut (k:=n) (m:=m) (c:=c) hge (ZnR _) hmc;rw [if_neg hcn,Nat.mul_one,Nat.mul_one,ZtL (by rw [List.length_drop,List.length_map,HLM.out];exact ZnR _),← List.map_drop] at hcut
   have hz2':(w.setCell ⟨g,0,none⟩ V).heap.size=w.heap.size:=by simp [World.setCell]
   refine ⟨⟨A,n,c,rfl,by rw [List.length_take,HLM.out];omega,by omega,ht.mono (by rw [hz2'];omega)⟩,⟨_,m - n,c - n,by rw [hV];exact hr2,hcut,by rw [List.length_drop,HLM.out],by omega,by omega,hBg⟩,hg⟩
def NumR (t:TypeId) (B g:Nat) (w:World) (z:Int) (st':RSt) (e:Ending) (w':World):Prop:=
 e= .returned (.int .i64 z)∧Rd t B w' g st'∧w.grownBy w' (some g)
theorem Zz0x (B g:Nat) (st:RSt) (k:Nat) (w:World) (h:Rd 139 B w g st) (hk:k≤4) (z:Int) (st':RSt) (hs:rdNum k st=(z,st')):
  Calls Tryz.prog 106 #[.pointer (some ⟨g,0,none⟩),.int .i64 k] w (NumR 139 B g w z st'):=by
 obtain ⟨⟨l,st2⟩,ho⟩:∃ q,rfSome k st=q:=⟨_,rfl⟩;have e1:(z,st')=(numL l,st2):=by rw [← hs,← Zzh7,ho]
 injection e1 with e1 e2;subst e1 e2;have hll:l.length=k:=by have:=Zz6z k st;rw [ho] at this;exact this
 have HO:=hid ho;clear ho hs;go_enter Tryz.func106,Tryz.ntmps106;go_wp2_with fail;refine (Zz6e B g st k w h (by omega) l st' HO.out).mono ?_;rintro e w1 ⟨⟨A,n,c,rfl,hl,hnc,hsl⟩,hrd,hg⟩;have HRD:=hid hrd;have HGR:=hid hg;have hn4:n≤4:=by omega
 clear hl hrd hg hll;go_wp2_with fail;refine (Zz5u w1.heap.size A l n c w1 hsl hn4 (numL l) rfl).mono ?_;rintro e w2 ⟨rfl,hw2⟩;rw [hw2];clear hw2 w2;go_wp2_with fail;go_ret
 exact ⟨rfl,HRD.out,HGR.out⟩
end Go.Proofs.YtnknjeipfjdjoaaGreatDoor
namespace Wells
open Go Go.RowKit
theorem Zz69 (a b:List Byte):rdSome a.length (a++b,false)=(a,(b,false)):=by
 unfold rdSome;rw [if_neg (by simp)];simp
theorem Zzd5 (a b:List Byte):rfSome a.length (a++b,false)=(a,(b,false)):=by
 unfold rfSome;rw [if_neg (by simp)];simp
theorem Zz3i (k:Nat) (a b:List Byte) (h:a.length=k):rdNum k (a++b,false)=(numL a,(b,false)):=by
 unfold rdNum;rw [← h,Zz69]
theorem Zz1d {z:Int} (h:0≤z∧z < 256) (b:List Byte):rdNum 1 (b8 z::b,false)=(z,(b,false)):=by
 have:=Zz3i 1 [b8 z] b rfl
 rw [show [b8 z]++b=b8 z::b from rfl] at this;rw [this];have e:=Zzbn z h;have e2:highL 1 z= [b8 z]:=rfl;rw [e2] at e;rw [e]
theorem Zzff {z:Int} (h:0≤z∧z < 65536) (b:List Byte):rdNum 2 (highL 2 z++b,false)=(z,(b,false)):=by rw [Zz3i 2 _ b (Zz0r 2 z),Zzcl z h]
theorem Zzfv {z:Int} (h:0≤z∧z < 16777216) (b:List Byte):rdNum 3 (highL 3 z++b,false)=(z,(b,false)):=by rw [Zz3i 3 _ b (Zz0r 3 z),Zzci z h]
theorem Zz8v {z:Int} (h:0≤z∧z < 4294967296) (b:List Byte):rdNum 4 (highL 4 z++b,false)=(z,(b,false)):=by rw [Zz3i 4 _ b (Zz0r 4 z),Zz6o z h]
theorem Zz1f:∀ (ts:List Int) (b:List Byte),(∀ z∈ts,0≤z∧z < 256)→rdTries ts.length (ts.map b8++b,false)=(ts,(b,false))
 | [],b,_=>rfl
 | z::ts,b,h=>by
  have ih:=Zz1f ts b (fun y hy=>h y (List.mem_cons_of_mem _ hy));have h1:=Zz1d (h z (List.mem_cons_self)) (ts.map b8++b);show rdTries (ts.length+1) (b8 z::(ts.map b8++b),false)=_;conv=>lhs;unfold rdTries
  rw [if_neg (by simp),h1];dsimp only;rw [ih]
theorem Zz9a {l:List Int} (h:triesOk l=true):∀ z∈l,0≤z∧z < 256:=fun z hz=>by
 unfold triesOk at h;rw [List.all_eq_true] at h;have:=h z hz
 simp only [decide_eq_true_eq] at this;omega
theorem Zz4w (e:Ent) (b:List Byte):packE e++b=b8 (e.name.length:Int)::(e.name++(highL 3 e.obj++(highL 2 e.len++(e.tries.map b8++b)))):=by
 unfold packE;simp only [List.append_assoc,List.cons_append,List.nil_append]
theorem Zzc3 {m:Mani} {e:Ent} (h:EntP m e) (hn:m.next≤16777216) (b:List Byte):rdEnt m.P (packE e++b,false)=(e,(b,false)):=by
 have hnl:=h.nlen;have hob:=h.obj;have hln:=h.len;have hl2:=h.len2;rw [Zz4w];unfold rdEnt;rw [Zz1d (by omega)];dsimp only;rw [Int.toNat_natCast,Zz69];dsimp only;rw [Zzfv (by omega)];dsimp only;rw [Zzff (by omega)];dsimp only;rw [← h.count,Int.toNat_natCast,Zz1f e.tries b (Zz9a h.tries)]
theorem Zz4j {m:Mani} (hn:m.next≤16777216):∀ (es:List Ent) (b:List Byte),(∀ e∈es,EntP m e)→rdEnts m.P es.length (es.flatMap packE++b,false)=(es,(b,false))
 | [],b,_=>rfl
 | e::es,b,h=>by
  have ih:=Zz4j hn es b (fun y hy=>h y (List.mem_cons_of_mem _ hy));have h1:=Zzc3 (h e (List.mem_cons_self)) hn (es.flatMap packE++b);show rdEnts m.P (es.length+1) ((e::es).flatMap packE++b,false)=_;rw [List.flatMap_cons,List.append_assoc];conv=>lhs;unfold rdEnts
  rw [if_neg (by simp),h1];dsimp only;rw [ih]
theorem Zz2v (m:Mani):packL m=highL 4 m.seq++(highL 4 m.next++(b8 m.P.K::b8 m.P.H::b8 m.P.S::b8 m.extra::b8 (m.drives.length:Int)::(m.drives.map b8++(b8 (m.objs.length:Int)::(m.objs.flatMap packE++ []))))):=by
 unfold packL packH;simp only [List.append_assoc,List.cons_append,List.nil_append,List.append_nil]
theorem Zz62 {l:List Int} (h:riseB l 63=true):∀ z∈l,0≤z∧z < 256:=fun z hz=>by
 obtain ⟨k,hk,rfl⟩:=List.getElem_of_mem hz;have:=Zz9d h hk
 rw [ZgD,ZgE hk] at this;simp only [Option.getD_some] at this;omega
theorem Zzca {m:Mani} (h:MayP m):∀ e∈m.objs,EntP m e:=fun e he=>by
 obtain ⟨k,hk,rfl⟩:=List.getElem_of_mem he;have:=Zzah h hk
 rwa [ZgD,ZgE hk] at this
theorem Zzaa {m:Mani} (h:MayP m):rdMani (packL m,false)=(m,([],false)):=by
 have h1:=h.seq;have h2:=h.next;obtain ⟨k1,k2,k3,k4,k5,k6⟩:=Par.may_ok h.P;have h4:=h.extra;have h5:=Zz49 h.drives;have h6:=h.olen;rw [Zz2v];unfold rdMani;rw [Zz8v (by omega)];dsimp only;rw [Zz8v (by omega)];dsimp only;rw [Zz1d (by omega)];dsimp only;rw [Zz1d (by omega)];dsimp only;rw [Zz1d (by omega)];dsimp only;rw [Zz1d (by omega)];dsimp only;rw [Zz1d (by omega)];dsimp only;rw [Int.toNat_natCast,Zz1f m.drives _ (Zz62 h.drives)];dsimp only;rw [Zz1d (by omega)];dsimp only;rw [Int.toNat_natCast];have:=Zz4j h2.2 m.objs [] (Zzca h)
 show (_,_)=_;have e:(⟨m.P.K,m.P.H,m.P.S⟩:Par)=m.P:=rfl;(try rw [e])
 (try rw [this])
theorem Zzeb {l:List Byte} {m:Mani} {st:RSt} (h:rdMani (l,false)=(m,st)) (h1:st.2=false) (h2:l≠ []) (h3:l=pack m):parseL l=some m:=by
 unfold parseL;rw [h];exact if_pos ⟨h1,h2,h3⟩
theorem Zzcv (m:Mani):packL m≠ []:=fun e=>by
 have h1:0 < (packL m).length:=by rw [Zz2v,List.length_append,Zz0r];omega
 rw [e] at h1;exact absurd h1 (Nat.lt_irrefl 0)
theorem Zz25 {m:Mani} (h:m.may=true):parseL (pack m)=some m:=by
 have hp:pack m=packL m:=by unfold pack;rw [if_pos h]
 have hb:=Zzaa (may_p h);rw [← hp] at hb;exact Zzeb hb rfl (by rw [hp];exact Zzcv m) rfl
theorem Zz30 {l:List Byte} {m:Mani} (h:parseL l=some m):l=pack m∧m.may=true:=by
 obtain ⟨q,hq⟩:∃ q,rdMani (l,false)=q:=⟨_,rfl⟩;unfold parseL at h;rw [hq] at h;clear hq;obtain ⟨M,st⟩:=q;dsimp only at h;split at h
 ·rename_i hc
  injection h with h;subst h;refine ⟨hc.2.2,?_⟩;cases hm:M.may with
  | true=>rfl
  | false=>
   exfalso
   apply hc.2.1
   rw [hc.2.2];unfold pack;rw [hm];rfl
 ·cases h
def rfEnt (P:Par) (st:RSt):Ent×RSt:=
 let a:=rdNum 1 st
 let nm:=rfSome a.1.toNat a.2
 let o:=rdNum 3 nm.2
 let l:=rdNum 2 o.2
 let t:=rdTries (min (countP P l.1) 100).toNat l.2
 (⟨nm.1,o.1,l.1,t.1⟩,t.2)
def rfEnts (P:Par):Nat→RSt→List Ent×RSt
 | 0,st=>([],st)
 | n+1,st=>if st.2 then ([],st) else ((rfEnt P st).1::(rfEnts P n (rfEnt P st).2).1,(rfEnts P n (rfEnt P st).2).2)
def rfMani (st:RSt):Mani×RSt:=
 let a:=rdNum 4 st
 let b:=rdNum 4 a.2
 let k:=rdNum 1 b.2
 let h:=rdNum 1 k.2
 let s:=rdNum 1 h.2
 let x:=rdNum 1 s.2
 let n:=rdNum 1 x.2
 let d:=rdTries n.1.toNat n.2
 let m:=rdNum 1 d.2
 let o:=rfEnts ⟨k.1,h.1,s.1⟩ m.1.toNat m.2
 (⟨a.1,b.1,⟨k.1,h.1,s.1⟩,x.1,d.1,o.1⟩,o.2)
theorem Zzai {m:Mani} {e:Ent} (h:EntP m e) (hn:m.next≤16777216) (b:List Byte):rfEnt m.P (packE e++b,false)=(e,(b,false)):=by
 have hnl:=h.nlen;have hob:=h.obj;have hln:=h.len;have hl2:=h.len2;have htl:=h.tlen;rw [Zz4w];unfold rfEnt;rw [Zz1d (by omega)];dsimp only;rw [Int.toNat_natCast,Zzd5];dsimp only;rw [Zzfv (by omega)];dsimp only;rw [Zzff (by omega)];dsimp only;rw [← h.count,show min (e.tries.length:Int) 100=(e.tries.length:Int) by omega,Int.toNat_natCast,Zz1f e.tries b (Zz9a h.tries)]
theorem Zz4t {m:Mani} (hn:m.next≤16777216):∀ (es:List Ent) (b:List Byte),(∀ e∈es,EntP m e)→rfEnts m.P es.length (es.flatMap packE++b,false)=(es,(b,false))
 | [],b,_=>rfl
 | e::es,b,h=>by
  have ih:=Zz4t hn es b (fun y hy=>h y (List.mem_cons_of_mem _ hy));have h1:=Zzai (h e (List.mem_cons_self)) hn (es.flatMap packE++b);show rfEnts m.P (es.length+1) ((e::es).flatMap packE++b,false)=_;rw [List.flatMap_cons,List.append_assoc];conv=>lhs;unfold rfEnts
  rw [if_neg (by simp),h1];dsimp only;rw [ih]
theorem Zza3 {m:Mani} (h:MayP m):rfMani (packL m,false)=(m,([],false)):=by
 have h1:=h.seq;have h2:=h.next;obtain ⟨k1,k2,k3,k4,k5,k6⟩:=Par.may_ok h.P;have h4:=h.extra;have h5:=Zz49 h.drives;have h6:=h.olen;rw [Zz2v];unfold rfMani;rw [Zz8v (by omega)];dsimp only;rw [Zz8v (by omega)];dsimp only;rw [Zz1d (by omega)];dsimp only;rw [Zz1d (by omega)];dsimp only;rw [Zz1d (by omega)];dsimp only;rw [Zz1d (by omega)];dsimp only;rw [Zz1d (by omega)];dsimp only;rw [Int.toNat_natCast,Zz1f m.drives _ (Zz62 h.drives)];dsimp only;rw [Zz1d (by omega)];dsimp only;rw [Int.toNat_natCast];have:=Zz4t h2.2 m.objs [] (Zzca h)
 show (_,_)=_;have e:(⟨m.P.K,m.P.H,m.P.S⟩:Par)=m.P:=rfl;(try rw [e])
 (try rw [this])
theorem rf_is (l:List Byte):(if (rfMani (l,false)).2.2=false∧(rfMani (l,false)).1.may=true∧pack (rfMani (l,false)).1=l then some (rfMani (l,false)).1 else none)=parseL l:=by
 cases hp:parseL l with
 | some m=>
  obtain ⟨h1,h2⟩:=Zz30 hp;have hpk:pack m=packL m:=by unfold pack;rw [if_pos h2]
  have hb:=Zza3 (may_p h2);rw [← hpk,← h1] at hb;rw [hb];exact if_pos ⟨rfl,h2,h1.symm⟩
 | none=>
  obtain ⟨q,hq⟩:∃ q,rfMani (l,false)=q:=⟨_,rfl⟩;rw [hq];clear hq;refine if_neg (fun h=> ?_);have:=Zz25 h.2.1
  rw [h.2.2,hp] at this;cases this
end Wells
