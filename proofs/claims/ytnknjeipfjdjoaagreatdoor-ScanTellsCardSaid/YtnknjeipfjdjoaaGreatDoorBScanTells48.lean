/- RefJoinA Wakes23 -/
import Derived.Test.YtnknjeipfjdjoaaGreatDoorBScanTells34
import Derived.Test.YtnknjeipfjdjoaaGreatDoorBScanTells46
import Derived.Test.YtnknjeipfjdjoaaGreatDoorBScanTells47
set_option maxHeartbeats 8000000
set_option maxRecDepth 20000
set_option linter.unusedSimpArgs false
set_option linter.unusedVariables false
set_option linter.unusedSectionVars false
namespace Wells
open Go Go.RowKit
theorem Zzh0 {α:Type} {lt:α→α→Bool} (ho:SOrd lt) (x:α):∀ (l:List α) (q:Nat),Srt lt l→q≤l.length→(∀ i (h:i < l.length),q≤i→lt x l[i]=true)→(∀ (h:q - 1 < l.length),0 < q→lt x l[q - 1]=false)→ins lt x l=l.take q++x::l.drop q
 | [],q,_,hq,_,_=>by
  have:q=0:=by simpa using hq
  subst this;rfl
 | y::ys,0,_,_,h1,_=>by
  have:=h1 0 (by simp) (ZnR _)
  simp only [List.getElem_cons_zero] at this;simp [ins,this]
 | y::ys,q+1,hs,hq,h1,h2=>by
  obtain ⟨hy,hs'⟩:=Zz1u hs;simp only [List.length_cons,Nat.add_le_add_iff_right] at hq;have h2':=h2 (by simp;omega) (by omega);simp only [Nat.add_sub_cancel] at h2';have hxy:lt x y=false:=by
   cases q with
   | zero=>simpa using h2'
   | succ j=>
    simp only [List.getElem_cons_succ] at h2';cases h:lt x y
    ·rfl
    ·have h3:=hy ys[j] (List.getElem_mem _)
     have:=ho.tr h h3
     rw [this] at h2';cases h2'
  unfold ins;rw [if_neg (by simp [hxy]),Zzh0 ho x ys q hs' hq (fun i hi hqi=>by
   have:=h1 (i+1) (by simp;omega) (by omega)
   simpa using this) (fun hh h0=>by
   obtain ⟨j,rfl⟩:∃ j,q=j+1:=⟨q - 1,by omega⟩;simpa using h2')]
  rfl
theorem Zzhj {m:Mani} {l:List Mani} (h:Srt ltM l):Srt ltM (ins ltM m l):=Zzc6 ltM_ord m h
theorem Zz9j {P:List Pg} {out:List Mani} {c:List Byte} (h:Srt ltM out):Srt ltM (docStep P out c):=by
 unfold docStep;split
 ·split
  ·split
   ·split
    ·exact h
    ·exact Zzhj h
   ·exact h
  ·exact h
 ·exact h
theorem Zz35 (P:List Pg):∀ (l:List (List Byte)) (out:List Mani),Srt ltM out→Srt ltM (l.foldl (docStep P) out)
 | [],_,h=>h
 | c::l,out,h=>Zz35 P l _ (Zz9j h)
theorem Zz7p (P:List Pg) (l:List (List Byte)) (c:List Byte):(l++ [c]).foldl (docStep P) []=docStep P (l.foldl (docStep P) []) c:=by rw [List.foldl_append];rfl
theorem Zz7d {P:List Pg} {out:List Mani} {c:List Byte} (h:tkPage c=none):docStep P out c=out:=by unfold docStep;rw [h]
theorem Zzcy {P:List Pg} {out:List Mani} {c:List Byte} {p:Pg} (h:tkPage c=some p) (ha:¬ p.at_=0):docStep P out c=out:=by
 unfold docStep;rw [h];exact if_neg ha
theorem Zz8s {P:List Pg} {out:List Mani} {c:List Byte} {p:Pg} (h:tkPage c=some p) (ha:p.at_=0) (hw:wholeL (docG P p (p.of_ - 1).toNat)=none):docStep P out c=out:=by
 unfold docStep;rw [h];dsimp only;rw [if_pos ha,hw]
theorem Zz5x {P:List Pg} {out:List Mani} {c:List Byte} {p:Pg} {m:Mani} (h:tkPage c=some p) (ha:p.at_=0) (hw:wholeL (docG P p (p.of_ - 1).toNat)=some m) (hm:m∈out):docStep P out c=out:=by
 unfold docStep;rw [h];dsimp only;rw [if_pos ha,hw];exact if_pos hm
theorem Zz4l {P:List Pg} {out:List Mani} {c:List Byte} {p:Pg} {m:Mani} (h:tkPage c=some p) (ha:p.at_=0) (hw:wholeL (docG P p (p.of_ - 1).toNat)=some m) (hm:¬ m∈out):docStep P out c=ins ltM m out:=by
 unfold docStep;rw [h];dsimp only;rw [if_pos ha,hw];exact if_neg hm
theorem Zzdc {L:List Pg} {f:Pg} {k:Nat} (h:L.find? (pgIs f (k+1))=none):docG L f (k+1)=docG L f k:=by
 rw [docG,h];simp
end Wells
namespace Go.Proofs.YtnknjeipfjdjoaaGreatDoor
open Go.RowKit Wells
structure RMs (w:World) (B:Nat) (A:Option Addr) (n:Nat) (xs:List MD):Prop where
 sl:Sl w B 8 A n (xs.flatMap encM)
 len:xs.length=n
 at_:∀ x∈xs,RM w B x.m x.Ad x.nd x.cd x.Ao x.no x.co x.ts
section
variable {w w':World} {B B' n:Nat} {A:Option Addr} {xs:List MD}
theorem RMs.nil_ (w:World) (B:Nat):RMs w B none 0 []:=⟨Sl.nil_,rfl,fun x hx=>by cases hx⟩
theorem RMs.below (h:RMs w B A n xs) (hb:Below B w w'):RMs w' B A n xs:=⟨h.sl.below hb,h.len,fun x hx=>(h.at_ x hx).below hb⟩
theorem RMs.mono (h:RMs w B A n xs) (hb:B≤B'):RMs w B' A n xs:=⟨h.sl.mono hb,h.len,fun x hx=>(h.at_ x hx).mono hb⟩
theorem RMs.up (h:RMs w w.heap.size A n xs) (hb:Below w.heap.size w w'):RMs w' w'.heap.size A n xs:=(h.below hb).mono hb.size
theorem RMs.get (h:RMs w B A n xs) {i:Nat} (hi:i < n):
  ∃ b o,A=some ⟨b,o,none⟩∧b < B∧xs[i]! ∈xs∧xs[i]? =some xs[i]! ∧∀ j v,(encM xs[i]!)[j]? =some v→w.cell? ⟨b,o+i*8+j,none⟩=some v:=by
 obtain ⟨b,o,rfl,hb,hc⟩:=h.sl.at_ (by omega);have hn:=h.len;refine ⟨b,o,rfl,hb,?_,?_,fun j v hv=> ?_⟩
 ·rw [getElem!_pos xs i (by omega)];exact List.getElem_mem _
 ·rw [getElem!_pos xs i (by omega),ZgE]
 ·have hj:j < 8:=by have:=(List.getElem?_eq_some_iff.1 hv).1;rwa [Zz1h] at this
  rw [Nat.add_assoc];exact hc _ _ (by rw [Zz99 xs i j (by omega) hj];exact hv)
theorem Zzcw (xs:List MD) (k:Nat):(xs.flatMap encM).take (k*8)=(xs.take k).flatMap encM:=by
 induction xs generalizing k with
 | nil=>simp
 | cons x xs ih=>
  cases k with
  | zero=>simp
  | succ k=>
   rw [List.flatMap_cons,List.take_succ_cons,List.flatMap_cons,Nat.add_mul,Nat.one_mul,Nat.add_comm,← Zz1h x,List.take_length_add_append,Zz1h,ih]
theorem Zzbq (xs:List MD) (k:Nat):(xs.flatMap encM).drop (k*8)=(xs.drop k).flatMap encM:=by
 induction xs generalizing k with
 | nil=>simp
 | cons x xs ih=>
  cases k with
  | zero=>simp
  | succ k=>
   rw [List.flatMap_cons,List.drop_succ_cons,Nat.add_mul,Nat.one_mul,Nat.add_comm,← Zz1h x,List.drop_length_add_append,Zz1h,ih]
theorem RMs.front (h:RMs w B A n xs) {k:Nat} (hk:k≤n):Sl w B 8 A k ((xs.take k).flatMap encM):=by
 have:=h.sl.take hk
 rwa [Zzcw] at this
theorem RMs.behind (h:RMs w B A n xs) {k c:Nat} (hk:k≤n) (hc:n≤c):Sl w B 8 (if c=k then A else A.map (·.add (k*8))) (n - k) ((xs.drop k).flatMap encM):=by
 have:=h.sl.cut hk (ZnR n) hc
 rw [Zzbq] at this;rwa [ZtL (by rw [Zz1o Zz1h,List.length_drop,h.len];exact ZnR _)] at this
end
theorem RMs.insert {w:World} {nx:Nat} {Ax:Option Addr} {xs:List MD} (h:RMs w w.heap.size Ax nx xs) (x:MD) (hx:RM w w.heap.size x.m x.Ad x.nd x.cd x.Ao x.no x.co x.ts) {q:Nat} (hq:q≤nx) {base c8:Nat} {A8:Option Addr}
  (ho:w.ownsRow base 28 8 (.slice A8 (nx+1) c8) (nx+1) ((xs.take q).flatMap encM++(encM x++(xs.drop q).flatMap encM))):RMs w w.heap.size A8 (nx+1) (xs.take q++x::xs.drop q):=by
 have hl:=h.len;refine ⟨?_,by simp;omega,fun y hy=> ?_⟩
 ·have:=Sl.own ho
  rwa [List.flatMap_append,List.flatMap_cons]
 ·rcases List.mem_append.1 hy with h1 | h1
  ·exact h.at_ _ (List.mem_of_mem_take h1)
  ·rcases List.mem_cons.1 h1 with rfl | h1
   ·exact hx
   ·exact h.at_ _ (List.mem_of_mem_drop h1)
theorem Zz6h (x:MD) (xs:List MD):∀ v∈encM x++xs.flatMap encM,v.oneCell'=true:=by
 intro v hv;rcases List.mem_append.1 hv with h | h
 ·exact Zz46 x v h
 ·exact Zz5m xs v h
def RJoinR (ms:List Mani) (w:World) (e:Ending) (w':World):Prop:=
 ∃ (A:Option Addr) (n c:Nat) (xs:List MD),e= .returned (.slice A n c)∧n=ms.length∧(n≤c∧c≤9223372036854775807)∧RMs w' w'.heap.size A n xs∧xs.map MD.m=ms∧Below w.heap.size w w'
theorem Zza9 {xs:List MD} {q:Nat} {x:MD} (h:xs[q]? =some x):(xs.take (q+1)).map MD.m=(xs.take q).map MD.m++ [x.m]:=by
 obtain ⟨hl,e⟩:=List.getElem?_eq_some_iff.1 h;rw [ZtS hl,List.map_append,e];rfl
theorem Zz6y {m:Mani} {xs:List MD}:false=true↔m∈(xs.take 0).map MD.m:=
 ⟨fun h=>(by cases h),fun h=>absurd h (by rw [List.take_zero];exact List.not_mem_nil)⟩
theorem Zz74 {l:List Mani} {a m:Mani} {b:Bool} (hb:decide (a=m)=b) (h:false=true↔m∈l):b=true↔m∈l++ [a]:=by
 rw [List.mem_append,List.mem_singleton,← hb,decide_eq_true_eq];constructor
 ·intro e;exact .inr e.symm
 ·rintro (e | e)
  ·exact absurd (h.2 e) (by decide)
  ·exact e.symm
theorem Zz60 {l:List Mani} {a m:Mani} (h:true=true↔m∈l):true=true↔m∈l++ [a]:=⟨fun _=>List.mem_append_left _ (h.1 rfl),fun _=>rfl⟩
theorem Zz79 {xs:List MD} {n:Nat} {m:Mani} {b:Bool} (h:b=true↔m∈(xs.take n).map MD.m) (hl:xs.length=n):b=true↔m∈xs.map MD.m:=by
 rwa [ZtL (by rw [hl];exact ZnR _)] at h
theorem keep0:(keepL mani0 []).length=1:=by
 have h:=Zz8c;unfold keepL;rw [List.length_append,Zz0n];unfold pageN;rw [h];rfl
theorem whole0:wholeM mani0 []=false:=by
 have h:=Zz8c;have hN:pageN (pack mani0)=1:=by unfold pageN;rw [h]
 unfold wholeM pagesL;rw [hN,Zzdb];rfl
theorem wakes23 (w:World):Calls Tryz.prog 6 #[] w fun e w'=>e= .returned (.bool true)∧Below w.heap.size w w':=by
 have HKL:=hid keep0;have HWH:=hid whole0;have hr0:=Row.new w 3 #[.int .i64 3];have hb1:Below w.heap.size w (w.alloc (.cells #[.int .i64 3] 3)):=(Below.refl _ _).alloc (ZnR _) _;have hr1:=Row.new (w.alloc (.cells #[.int .i64 3] 3)) 28 #[.int .i64 1,.int .i64 0,.int .i64 1,.int .i64 1,.int .i64 1,.int .i64 0,.slice (some ⟨w.heap.size,0,none⟩) 1 1,.slice none 0 0];have hr0':=hr0.alloc (.cells #[.int .i64 1,.int .i64 0,.int .i64 1,.int .i64 1,.int .i64 1,.int .i64 0,.slice (some ⟨w.heap.size,0,none⟩) 1 1,.slice none 0 0] 28);have hb2:=hb1.alloc hb1.size (.cells #[.int .i64 1,.int .i64 0,.int .i64 1,.int .i64 1,.int .i64 1,.int .i64 0,.slice (some ⟨w.heap.size,0,none⟩) 1 1,.slice none 0 0] 28)
 have hs0:=hr0'.sl (B:=w.heap.size+1) (m:=1) (by omega) (by simp);have hrm:=Zzh8 (A:=none) (c:=1) hs0 (by omega);have hg:(w.alloc (.cells #[.int .i64 3] 3)).heap.size=w.heap.size+1:=by simp
 have hz2:w.heap.size+1≤((w.alloc (.cells #[.int .i64 3] 3)).alloc (.cells #[.int .i64 1,.int .i64 0,.int .i64 1,.int .i64 1,.int .i64 1,.int .i64 0,.slice (some ⟨w.heap.size,0,none⟩) 1 1,.slice none 0 0] 28)).heap.size:=by simp
 rw [hg] at hr1;clear hr0 hb1 hr0' hs0 hg;go_enter Tryz.func6,Tryz.ntmps6;go_wp2_with fail;generalize (w.alloc (.cells #[.int .i64 3] 3)).alloc (.cells #[.int .i64 1,.int .i64 0,.int .i64 1,.int .i64 1,.int .i64 1,.int .i64 0,.slice (some ⟨w.heap.size,0,none⟩) 1 1,.slice none 0 0] 28)=w2 at*;refine (Zzbt w2).mono ?_;rintro e w3 ⟨pg,rfl,hpg,hp1,hb3⟩;have hrm3:=hrm.below (hb3.mono hz2);have hr3:=hr1.below hb3 hr1.lt;have hz3:=ZnT hz2 hb3.size;have hb03:=hb2.trans (hb3.mono hb2.size);clear hrm hr1;go_wp2_with fail;refine (Zzbh 3 pg Pw.new w3 (by omega) (by omega) hp1).mono ?_;rintro e w4 ⟨g,rfl,hg,hd4,hb4⟩;have HD:=hid hd4;have HM:=hid (hrm3.below (hb4.mono hz3))
 have HX:=hid (hr3.below hb4 hr3.lt);have HZ:=hid (ZnT hz3 hb4.size);have HB4:=hid (hb03.trans (hb4.mono hb03.size));clear hd4 hrm3 hr3 hb4 hb03 hb3 hb2 hp1 hz2 hz3;have hr:=HX.out;obtain ⟨x0,x1,x2,x3,x4,x5,x6,x7⟩:=Row.c8 hr;clear hr;go_wp2_with fail;refine (Zz32 _ g pg _ 0 mani0 (w.heap.size+1) _ _ _ _ _ _ _ w4 HD.out (DOk.new_ (by omega)) HM.out HZ.out (by omega)).mono ?_;rintro e wz ⟨A1,n1,c1,xs1,rfl,hn1,ho1,-,hb1⟩;have hn0:n1=0:=hn1;subst hn0;have HB1:=hid hb1;clear ho1 hb1 hn1;clear x0 x1 x2 x3 x4 x5 x6 x7;have hr:=HX.out.below HB1.out HX.out.lt;obtain ⟨x0,x1,x2,x3,x4,x5,x6,x7⟩:=Row.c8 hr;clear hr;go_wp2_with fail
 refine (Zzc2 _ g pg _ 0 mani0 (w.heap.size+1) _ _ _ _ _ _ _ wz (HD.out.new_ HB1.out) (DOk.new_ (by omega)) (HM.out.below (HB1.out.mono HZ.out)) (ZnT HZ.out HB1.out.size) (by omega) Zzb2 Zzcz).mono ?_;rintro e wy ⟨A2,c2,vs2,rfl,ho2,hb2⟩;rw [show (keepL mani0 (Dr.new Pw.new 3).L).length=1 from HKL.out];have HB2:=hid (HB1.out.trans (hb2.mono HB1.out.size));clear ho2 hb2;clear x0 x1 x2 x3 x4 x5 x6 x7;have hr:=HX.out.below HB2.out HX.out.lt;obtain ⟨x0,x1,x2,x3,x4,x5,x6,x7⟩:=Row.c8 hr;clear hr;go_wp2_with fail
 refine (Zz90 _ g pg _ 0 mani0 (w.heap.size+1) _ _ _ _ _ _ _ false wy (HD.out.new_ HB2.out) (DOk.new_ (by omega)) (HM.out.below (HB2.out.mono HZ.out)) (ZnT HZ.out HB2.out.size) Zzb2 Zzcz HWH.out).mono ?_;rintro e wx ⟨rfl,hb3⟩;have HB3:=hid (HB2.out.trans (hb3.mono HB2.out.size));clear hb3;clear x0 x1 x2 x3 x4 x5 x6 x7;go_wp2_with fail;go_ret
 exact ⟨rfl,HB4.out.trans (HB3.out.mono HB4.out.size)⟩
end Go.Proofs.YtnknjeipfjdjoaaGreatDoor
