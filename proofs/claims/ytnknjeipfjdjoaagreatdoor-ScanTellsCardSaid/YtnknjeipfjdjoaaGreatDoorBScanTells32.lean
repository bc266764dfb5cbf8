/- Data PlayRec PlayMath Num -/
import Derived.Deep.DeepCutAuto
import Derived.Deep.CutBlock
import Derived.BigGuardPart
import Derived.Lib.Bytes
import Derived.Test.YtnknjeipfjdjoaaGreatDoorBScanTells06
import Derived.Test.YtnknjeipfjdjoaaGreatDoorBScanTells13
import Derived.Test.YtnknjeipfjdjoaaGreatDoorBScanTells18
import Derived.Test.YtnknjeipfjdjoaaGreatDoorBScanTells30
set_option maxHeartbeats 8000000
set_option maxRecDepth 20000
set_option linter.unusedSimpArgs false
set_option linter.unusedVariables false
set_option linter.unusedSectionVars false
namespace Go.Proofs.YtnknjeipfjdjoaaGreatDoor
open Go.RowKit Wells
theorem Zzgb {w:World} {base n:Nat} {t:TypeId} {v:Value} {l:List Byte} {E:Int} (h:w.ownsRow base t 1 v n (l.map bv8++ [.int .u8 E])) (h0:0≤E) (h1:E≤255):∃ b:Byte,w.ownsRow base t 1 v n ((l++ [b]).map bv8):=
 ⟨BitVec.ofNat 8 E.toNat,by rw [List.map_append,List.map_cons,List.map_nil,Zz4f h0 h1];exact h⟩
theorem Zzg2 (n:Nat) (x:Int) (w:World) (hn:n≤1048576) (hx: -9223372036854775808≤x∧x≤9223372036854775807):
  Calls Tryz.prog 36 #[.int .i64 n,.int .i64 x] w fun e w'=>∃ A c l,e= .returned (.slice A n c)∧l.length=n∧OB w.heap.size w' (.slice A n c) l∧Below w.heap.size w w':=by
 obtain ⟨i0,hi,hz0,hz1,hz2⟩:=info_parts infoB;generalize hg:w.heap.size=g at*;have hgw:g≤w.heap.size:=by omega
 have HG:=hid hg;clear hg;go_enter Tryz.func36,Tryz.ntmps36;go_wp2_with fail;go_loopw [5,6] (fun v i wr=>∃ (j:Nat) (A:Option Addr) (c:Nat) (l:List Byte),j≤n∧i= .int .i64 j∧v= .slice A j c∧wr.ownsRow g 5 1 (.slice A j c) j (l.map bv8)∧Below g w wr) (fun _ i _=>n - (intOf i).toNat)
 case atStart=>exact ⟨0,none,0, [],by omega,rfl,rfl,World.ownsRow_nil _ _ _ _,Below.refl _ _⟩
 case round=>
  obtain ⟨j,A,c,l,hj,rfl,rfl,ho,hbw⟩:=hrel;have hsw:g≤wr.heap.size:=by have:=hbw.size;omega
  by_cases hlt:j < n
  ·go_wp2_with (at_builtin;go_must (refine Zz03 rfl (.tmp 12) (.tmp 23) 33 rfl g 5 i0 (.int .u8 0) 1 1 Tryz.underlying33 hi hz0 hz1 hz2 rfl (by omega) (.slice A j c) j _ rfl (ho.alloc _) _ _ 1 1 _ rfl (Sl.fresh _ _ _ _ 1 rfl) (by simp [Value.oneCell']) (j+1) (by omega) _ rfl (by omega) (by omega) (by simp;omega) ?_);intro A2 c2 w2 o2 g2 _)
   have b2:Below g w w2:=Zz04 (hbw.alloc hsw _) (ho.alloc _) g2 (ZnR _) (by simp;omega);obtain ⟨b,o3⟩:=Zzgb o2 (by omega) (by omega);go_roundw
   case rel=>exact ⟨j+1,A2,c2,l++ [b],by omega,by go_num,rfl,o3,b2⟩
   case measure=>simp [intOf];omega
  ·have hjn:n=j:=by omega
   subst hjn;go_wp2_with fail;go_ret
   have hl:l.length=n:=by have:=ho.1;simpa using this
   exact ⟨A,c,l,rfl,hl,by unfold OB;rw [hl];exact ho,hbw⟩
end Go.Proofs.YtnknjeipfjdjoaaGreatDoor
namespace Wells
open Go Go.RowKit
def ZR:List Value:= [.int .i64 0,.int .i64 0,.int .i64 0,.int .i64 0,.int .i64 0,.int .i64 0,.int .u32 0,.slice none 0 0]
def put4 (w:World) (g:Nat) (a0 a1 a2 a3:Value):World:=(((w.setCell ⟨g,0,none⟩ a0).setCell ⟨g,1,none⟩ a1).setCell ⟨g,2,none⟩ a2).setCell ⟨g,3,none⟩ a3
def put8 (w:World) (g:Nat) (a0 a1 a2 a3 a4 a5 a6 a7:Value):World:=(((((((w.setCell ⟨g,0,none⟩ a0).setCell ⟨g,1,none⟩ a1).setCell ⟨g,2,none⟩ a2).setCell ⟨g,3,none⟩ a3).setCell ⟨g,4,none⟩ a4).setCell ⟨g,5,none⟩ a5).setCell ⟨g,6,none⟩ a6).setCell ⟨g,7,none⟩ a7
section
variable {w w0:World} {g:Nat}
theorem row8' {t:TypeId} (h:Row w g t ZR) (a0 a1 a2 a3 a4 a5 a6 a7:Value):Row (put8 w g a0 a1 a2 a3 a4 a5 a6 a7) g t [a0,a1,a2,a3,a4,a5,a6,a7]:=(((((((h.set 0 a0).set 1 a1).set 2 a2).set 3 a3).set 4 a4).set 5 a5).set 6 a6).set 7 a7
theorem far8 {k:Nat} {t:TypeId} {cs:List Value} (h:Row w k t cs) (hne:k≠g) (a0 a1 a2 a3 a4 a5 a6 a7:Value):Row (put8 w g a0 a1 a2 a3 a4 a5 a6 a7) k t cs:=
 (((((((h.far (p:=⟨g,0,none⟩) hne a0).far (p:=⟨g,1,none⟩) hne a1).far (p:=⟨g,2,none⟩) hne a2).far (p:=⟨g,3,none⟩) hne a3).far (p:=⟨g,4,none⟩) hne a4).far (p:=⟨g,5,none⟩) hne a5).far (p:=⟨g,6,none⟩) hne a6).far (p:=⟨g,7,none⟩) hne a7
theorem row4' {t:TypeId} {z0 z1 z2 z3:Value} (h:Row w g t [z0,z1,z2,z3]) (a0 a1 a2 a3:Value):Row (put4 w g a0 a1 a2 a3) g t [a0,a1,a2,a3]:=(((h.set 0 a0).set 1 a1).set 2 a2).set 3 a3
theorem below4' {B:Nat} (h:Below B w0 w) (hg:B≤g) (a0 a1 a2 a3:Value):Below B w0 (put4 w g a0 a1 a2 a3):=
 (((h.setCell (p:=(⟨g,0,none⟩:Addr)) hg a0).setCell (p:=(⟨g,1,none⟩:Addr)) hg a1).setCell (p:=(⟨g,2,none⟩:Addr)) hg a2).setCell (p:=(⟨g,3,none⟩:Addr)) hg a3
theorem below8' {B:Nat} (h:Below B w0 w) (hg:B≤g) (a0 a1 a2 a3 a4 a5 a6 a7:Value):Below B w0 (put8 w g a0 a1 a2 a3 a4 a5 a6 a7):=
 (((((((h.setCell (p:=(⟨g,0,none⟩:Addr)) hg a0).setCell (p:=(⟨g,1,none⟩:Addr)) hg a1).setCell (p:=(⟨g,2,none⟩:Addr)) hg a2).setCell (p:=(⟨g,3,none⟩:Addr)) hg a3).setCell (p:=(⟨g,4,none⟩:Addr)) hg a4).setCell (p:=(⟨g,5,none⟩:Addr)) hg a5).setCell (p:=(⟨g,6,none⟩:Addr)) hg a6).setCell (p:=(⟨g,7,none⟩:Addr)) hg a7
end
end Wells
namespace Go.Proofs.YtnknjeipfjdjoaaGreatDoor
open Go.RowKit Wells
theorem Zz12 {w wr:World} {g:Nat} (h:w.grownBy wr (some g)) (j:Nat) (u:Value):w.grownBy (wr.setCell ⟨g,j,none⟩ u) (some g):=
 ⟨h.os,h.tape,h.output,by simpa [World.setCell] using h.size,fun k hk hn=>(Below.heap_setCell wr ⟨g,j,none⟩ u k (fun e=>hn (by rw [e]))).trans (h.block k hk hn)⟩
theorem own8 {w:World} {base g:Nat} {v:Value} {l:List Byte} {cs:List Value} (h:OB base w v l) (hr:Row w g 73 cs) (a0 a1 a2 a3 a4 a5 a6 a7:Value):OB base (put8 w g a0 a1 a2 a3 a4 a5 a6 a7) v l:=
 World.ownsRow.kept h (row:=some g) (Zz12 (Zz12 (Zz12 (Zz12 (Zz12 (Zz12 (Zz12 (Zz12 (World.grownBy.refl w _) 0 a0) 1 a1) 2 a2) 3 a3) 4 a4) 5 a5) 6 a6) 7 a7) (Zz2i h hr (by decide))
theorem Zzgp {x:Int} (h: -9223372036854775808≤x∧x≤9223372036854775807): -9223372036854775808≤x.tdiv 7∧x.tdiv 7≤9223372036854775807:=by
 have e:=Int.tdiv_eq_ediv (a:=x) (b:=7);have e1:Int.sign 7=1:=rfl;rw [e1] at e;rw [e];split <;> omega
theorem Zzdw {x:Int} (h: -9223372036854775808≤x∧x≤9223372036854775807): -9223372036854775808≤x.tdiv 12∧x.tdiv 12≤9223372036854775807:=by
 have e:=Int.tdiv_eq_ediv (a:=x) (b:=12);have e1:Int.sign 12=1:=rfl;rw [e1] at e;rw [e];split <;> omega
theorem Zze0 {x:Int} (h: -9223372036854775808≤x∧x≤9223372036854775807): -9223372036854775808≤x.tdiv 20∧x.tdiv 20≤9223372036854775807:=by
 have e:=Int.tdiv_eq_ediv (a:=x) (b:=20);have e1:Int.sign 20=1:=rfl;rw [e1] at e;rw [e];split <;> omega
theorem infoRec:(Tryz.prog.info? 73).map (fun i=>(i.zero,i.size,i.bytes))=some (some (.agg #[.int .i64 0,.int .i64 0,.int .i64 0,.int .i64 0,.int .i64 0,.int .i64 0,.int .u32 0,.slice none 0 0]),8,80):=by kernel_rfl
theorem Zz9f {w:World} {g g':Nat} {t t':TypeId} {cs cs':List Value} (h:Row w g t cs) (h':Row w g' t' cs') (hn:t≠t'):g≠g':=fun e=>by
 subst e;unfold Row at h h';rw [h] at h';injection h' with h';injection h' with _ h';exact hn h'
structure PQ (w0 w:World) (g8:Nat) (mc:List Value) (q:Rec) (A:Option Addr) (nr c:Nat):Prop where
 m:Row w w0.heap.size 28 mc
 z:Row w (w0.heap.size+1) 73 ZR
 r:Row w g8 73 (RecCells q A nr c)
 d:OB w0.heap.size w (.slice A nr c) q.D
 be:Below w0.heap.size w0 w
 ge:w0.heap.size≤g8
 ne:w0.heap.size+1≠g8
 may:q.may=true
 len:q.D.length=nr
section
variable {w0 w w':World} {g8 nr c:Nat} {mc:List Value} {q q':Rec} {A:Option Addr}
theorem PQ.below (h:PQ w0 w g8 mc q A nr c) (hb:Below w.heap.size w w'):PQ w0 w' g8 mc q A nr c:=
 ⟨h.m.below hb h.m.lt,h.z.below hb h.z.lt,h.r.below hb h.r.lt,h.d.below hb,h.be.trans (hb.mono h.be.size),h.ge,h.ne,h.may,h.len⟩
theorem PQ.set_ (h:PQ w0 w g8 mc q A nr c) {j:Nat} {v:Value} (hr:(RecCells q A nr c).set j v=RecCells q' A nr c) (hd:q'.D=q.D) (hm:q'.may=true):PQ w0 (w.setCell ⟨g8,j,none⟩ v) g8 mc q' A nr c:=
 ⟨h.m.far (p:=⟨g8,j,none⟩) (Zz9f h.m h.r (by decide)) v,h.z.far (p:=⟨g8,j,none⟩) h.ne v,(h.r.set j v).to hr,by rw [hd];exact World.ownsRow.kept h.d (row:=some g8) (Zz12 (World.grownBy.refl w _) j v) (Zz2i h.d h.r (by decide)),h.be.setCell (p:=(⟨g8,j,none⟩:Addr)) h.ge v,h.ge,h.ne,hm,by rw [hd];exact h.len⟩
end
theorem Zzas (n:Nat) (z x:Int) (w:World) (hz:z=(n:Int)) (hn:n≤1048576) (hx: -9223372036854775808≤x∧x≤9223372036854775807):
  Calls Tryz.prog 36 #[.int .i64 z,.int .i64 x] w fun e w'=>∃ A c l,e= .returned (.slice A n c)∧l.length=n∧OB w.heap.size w' (.slice A n c) l∧Below w.heap.size w w':=by
 subst hz;exact Zzg2 n x w hn hx
theorem Zzi8 {es:List Ent} {i:Nat} (hi:i < es.length):es.getD i default∈es:=by
 rw [ZgD,ZgE hi];exact List.getElem_mem hi
theorem may_o {r:Rec} (h:r.may=true) {o:Int} (ho:0≤o∧o≤16777215):({ r with O:=o}:Rec).may=true:=by
 unfold Rec.may at h ⊢;obtain ⟨h1,h2,h3,h4,h5,h6,h7,h8⟩:=of_decide_eq_true h;exact decide_eq_true ⟨ho.1,ho.2,h3,h4,h5,h6,h7,h8⟩
theorem may_b {r:Rec} (h:r.may=true) {o:Int} (ho:0≤o∧o < 8):({ r with B:=o}:Rec).may=true:=by
 unfold Rec.may at h ⊢;obtain ⟨h1,h2,h3,h4,h5,h6,h7,h8⟩:=of_decide_eq_true h;exact decide_eq_true ⟨h1,h2,ho.1,ho.2,h5,h6,h7,h8⟩
theorem may_s {r:Rec} (h:r.may=true) (x:BitVec 32):({ r with S:=x}:Rec).may=true:=by
 unfold Rec.may at h ⊢;exact h
theorem may_h {r:Rec} (h:r.may=true) {o:Int} (ho:1≤o∧o≤4):({ r with P:={ r.P with H:=o}}:Rec).may=true:=by
 unfold Rec.may at h ⊢;obtain ⟨h1,h2,h3,h4,h5,h6,h7,h8⟩:=of_decide_eq_true h;refine decide_eq_true ⟨h1,h2,h3,h4,h5,h6,?_,h8⟩;have:=Par.may_ok h7
 unfold Par.Ok at this;refine Par.ok_may ?_;unfold Par.Ok;dsimp only;omega
theorem Zzg3 {r:Rec} (h:r.may=true):r.P.may=true:=by
 unfold Rec.may at h;exact (of_decide_eq_true h).2.2.2.2.2.2.1
theorem Zzia (oo ob oi:Int) (P:Par) (ns:Nat) (h1:0≤oo∧oo≤19) (h2:0≤ob∧ob≤2) (h3:0≤oi∧oi≤11) (hP:P.may=true) (hn:P.S=(ns:Int)):∀ l:List Byte,l.length=ns→(⟨oo,ob,oi,P,0,l⟩:Rec).may=true:=by
 intro l hl;unfold Rec.may;exact decide_eq_true ⟨by show 0≤oo;omega,by show oo≤16777215;omega,by show 0≤ob;omega,by show ob < 8;omega,by show 0≤oi;omega,by show oi≤65535;omega,hP,by show (l.length:Int)=P.S;rw [hl,hn]⟩
def PRecR (w:World) (m:Mani) (e:Ending) (w':World):Prop:=
 ∃ (r:Rec) (A:Option Addr) (nr c:Nat),e= .returned (r.val (.slice A nr c))∧r.may=true∧r.D.length=nr∧OB w.heap.size w' (.slice A nr c) r.D∧Below w.heap.size w w'
theorem Zza6 (m:Mani) (B:Nat) (Ad Ao:Option Addr) (nd cd no co:Nat) (ts:List Value) (a bb:Int) (w:World) (h:RM w B m Ad nd cd Ao no co ts) (hB:B≤w.heap.size) (hP:m.P.may=true) (hno:no≤1000)
  (ho:∀ e∈m.objs,0≤e.obj∧e.obj≤16777215∧e.tries.length≤8) (ha64: -9223372036854775808≤a∧a≤9223372036854775807) (hb64: -9223372036854775808≤bb∧bb≤9223372036854775807):
  Calls Tryz.prog 34 #[m.val (.slice Ad nd cd) (.slice Ao no co),.int .i64 a,.int .i64 bb] w (PRecR w m):=by
 obtain ⟨ie,hie,hz0ie,hz1ie,hz2ie⟩:=info_parts infoE;obtain ⟨ir,hir,hz0ir,hz1ir,hz2ir⟩:=info_parts infoRec;obtain ⟨ns,hns,hns1,hns2⟩:∃ ns:Nat,m.P.S=(ns:Int)∧1≤ns∧ns≤24:=by
  have:=Par.may_ok hP
  unfold Par.Ok at this;exact ⟨m.P.S.toNat,by omega,by omega,by omega⟩
 obtain ⟨oo,hoo⟩:∃ oo,a % 20=oo:=⟨_,rfl⟩;obtain ⟨a20,ha20⟩:∃ q,a.tdiv 20=q:=⟨_,rfl⟩;obtain ⟨ob,hob⟩:∃ ob,a20 % 3=ob:=⟨_,rfl⟩;obtain ⟨oi,hoi⟩:∃ oi,bb % 12=oi:=⟨_,rfl⟩;have ha20b: -9223372036854775808≤a20∧a20≤9223372036854775807:=ha20 ▸ Zze0 ha64;have hoob:0≤oo∧oo≤19:=by omega
 have hobb:0≤ob∧ob≤2:=by omega
 have hoib:0≤oi∧oi≤11:=by omega
 have HOO:=hid hoo;have HA20:=hid ha20;have HOB:=hid hob;have HOI:=hid hoi;obtain ⟨ha1,ha2⟩:=ha64;have hb64':=hb64;obtain ⟨hb1,hb2⟩:=hb64';have hx2:=(Row.new w 28 #[.int .i64 m.seq,.int .i64 m.next,.int .i64 m.P.K,.int .i64 m.P.H,.int .i64 m.P.S,.int .i64 m.extra,.slice Ad nd cd,.slice Ao no co]);have hx6:=Row.new (w.alloc (.cells #[.int .i64 m.seq,.int .i64 m.next,.int .i64 m.P.K,.int .i64 m.P.H,.int .i64 m.P.S,.int .i64 m.extra,.slice Ad nd cd,.slice Ao no co] 28)) 73 #[.int .i64 0,.int .i64 0,.int .i64 0,.int .i64 0,.int .i64 0,.int .i64 0,.int .u32 0,.slice none 0 0]
 have hx2b:=hx2.alloc (.cells #[.int .i64 0,.int .i64 0,.int .i64 0,.int .i64 0,.int .i64 0,.int .i64 0,.int .u32 0,.slice none 0 0] 73);have hbb:=((Below.refl w.heap.size w).alloc (ZnR _) (.cells #[.int .i64 m.seq,.int .i64 m.next,.int .i64 m.P.K,.int .i64 m.P.H,.int .i64 m.P.S,.int .i64 m.extra,.slice Ad nd cd,.slice Ao no co] 28)).alloc (by simp) (.cells #[.int .i64 0,.int .i64 0,.int .i64 0,.int .i64 0,.int .i64 0,.int .i64 0,.int .u32 0,.slice none 0 0] 73);have hsz:(w.alloc (.cells #[.int .i64 m.seq,.int .i64 m.next,.int .i64 m.P.K,.int .i64 m.P.H,.int .i64 m.P.S,.int .i64 m.extra,.slice Ad nd cd,.slice Ao no co] 28)).heap.size=w.heap.size+1:=by simp
 rw [hsz] at hx6;have HM:=hid hx2b;have HZ:=hid (show Row _ (w.heap.size+1) 73 ZR from hx6);have HB0:=hid hbb;have HR:=hid h;have HO:=hid ho;have HP:=hid hP;have HNS:=hid hns;have HMAY:=hid (Zzia oo ob oi m.P ns hoob hobb hoib hP hns);clear hns hoo ha20 hob hoi hx2 hx6 hx2b hbb hsz h ho hP;unfold Mani.val;go_enter Tryz.func34,Tryz.ntmps34;go_upto_region 2 with fail;generalize (w.alloc (.cells #[.int .i64 m.seq,.int .i64 m.next,.int .i64 m.P.K,.int .i64 m.P.H,.int .i64 m.P.S,.int .i64 m.extra,.slice Ad nd cd,.slice Ao no co] 28)).alloc (.cells #[.int .i64 0,.int .i64 0,.int .i64 0,.int .i64 0,.int .i64 0,.int .i64 0,.int .u32 0,.slice none 0 0] 73)=w2 at*
 go_cut [8] (fun s8 wx=>∃ (g8:Nat) (r:Rec) (A:Option Addr) (nr c:Nat),s8= .pointer (some ⟨g8,0,none⟩)∧PQ w wx g8 [.int .i64 m.seq,.int .i64 m.next,.int .i64 m.P.K,.int .i64 m.P.H,.int .i64 m.P.S,.int .i64 m.extra,.slice Ad nd cd,.slice Ao no co] r A nr c)
 case first=>
  have hq20:IntKind.i64.wrap (a.tdiv 20)=a20:=by rw [HA20.out,IntKind.wrap_i64];omega
  refine Org.begin [] (fun w'=>Row w' w.heap.size 28 [.int .i64 m.seq,.int .i64 m.next,.int .i64 m.P.K,.int .i64 m.P.H,.int .i64 m.P.S,.int .i64 m.extra,.slice Ad nd cd,.slice Ao no co]∧Row w' (w.heap.size+1) 73 ZR∧Below w.heap.size w w') [0,1,2,3,4,5,6,7,8,9,10,11,12,13,14,15] (by kernel_rfl) (⟨HM.out,HZ.out,Zz05 HB0.out⟩) (fun hS=> ?_);iterate 2 (refine Org.yV (SM.of hS) ?_;try simp only [aS,aN,aA,a0,a1])
  (refine Org.yA (v:= ?_) (SM.of hS) ?_ ?_;rotate_left;(focus (intro w hSw;(try dsimp only at hSw);refine Pure.call 27 #[.int .i64 a,.int .i64 20] (by go_simp;first | done | rfl) ?_;refine (Zz07 (a) 20 _ (by omega) (by omega) (by omega) (by omega)).mono ?_;rintro e w' ⟨rfl,rfl⟩;rw [HOO.out];refine ⟨?_,rfl⟩;with_reducible rfl));try simp only [aS,aN,aA,a0,a1]);iterate 3 (refine Org.yV (SM.of hS) ?_;try simp only [aS,aN,aA,a0,a1])
  (refine Org.yA (v:= ?_) (SM.of hS) ?_ ?_;rotate_left;(focus (intro w hSw;(try dsimp only at hSw);refine Pure.call 27 #[.int .i64 a20,.int .i64 3] (by go_simp;first | done | rfl) ?_;refine (Zz07 (a20) 3 _ (by omega) (by omega) (by omega) (by omega)).mono ?_;rintro e w' ⟨rfl,rfl⟩;rw [HOB.out];refine ⟨?_,rfl⟩;with_reducible rfl));try simp only [aS,aN,aA,a0,a1]);iterate 2 (refine Org.yV (SM.of hS) ?_;try simp only [aS,aN,aA,a0,a1])
  (refine Org.yA (v:= ?_) (SM.of hS) ?_ ?_;rotate_left;(focus (intro w hSw;(try dsimp only at hSw);refine Pure.call 27 #[.int .i64 bb,.int .i64 12] (by go_simp;first | done | rfl) ?_;refine (Zz07 (bb) 12 _ (by omega) (by omega) (by omega) (by omega)).mono ?_;rintro e w' ⟨rfl,rfl⟩;rw [HOI.out];refine ⟨?_,rfl⟩;with_reducible rfl));try simp only [aS,aN,aA,a0,a1]);(refine Org.yV (SM.of hS) ?_;try simp only [aS,aN,aA,a0,a1])
  (refine Org.yA (v:= ?_) (SM.of hS) ?_ ?_;rotate_left;(focus (intro w hSw;(try dsimp only at hSw);have q0:=hSw.1.cell 2;have q1:=hSw.1.cell 3;have q2:=hSw.1.cell 4;simp only [ZgS,ZgZ] at q0 q1 q2;refine Pure.val ?_;go_simp;(try with_reducible rfl);done));try simp only [aS,aN,aA,a0,a1]);iterate 2 (refine Org.yV (SM.of hS) ?_;try simp only [aS,aN,aA,a0,a1])
  (refine Org.yA (v:= ?_) (SM.of hS) ?_ ?_;rotate_left;(focus (intro w hSw;(try dsimp only at hSw);have q0:=hSw.1.cell 2;have q1:=hSw.1.cell 3;have q2:=hSw.1.cell 4;simp only [ZgS,ZgZ] at q0 q1 q2;refine Pure.val ?_;go_simp;(try with_reducible rfl);done));try simp only [aS,aN,aA,a0,a1]);(refine Org.yV (SM.of hS) ?_;try simp only [aS,aN,aA,a0,a1]);refine Org.two (i:=16) (j:=18) [17,18,19] [16,17,19] rfl rfl (by kernel_rfl) (by kernel_rfl) (by kernel_rfl) (fun K hK=> ?_) (fun K hK=> ?_)
  ·skip
   go_simp;refine (Zzas ns m.P.S bb _ HNS.out (by omega) hb64).mono ?_;rintro e w5 ⟨A5,c5,l5,rfl,hl5,o5,b5⟩;have HO5:=hid (Zz0b (base':=w.heap.size) (show OB _ _ _ _ from o5) hS.2.2.size);have HL5:=hid hl5;have hS3:=And.intro (hS.1.below b5 hS.1.lt) (And.intro (hS.2.1.below b5 hS.2.1.lt) (hS.2.2.trans (b5.mono hS.2.2.size)));clear o5 hl5 b5;go_wp2_with fail;refine hK.out _ _ hS3 (fun hS2=> ?_);clear hK K hS;have hS:=hS2;clear hS2;try simp only [aS,aN,aA,a0,a1]
   (refine Org.yV (SM.of hS) ?_;try simp only [aS,aN,aA,a0,a1]);refine Org.gA fun K hK=> ?_
   (refine Zz5r 73 (by rfl) ir (.agg #[.int .i64 0,.int .i64 0,.int .i64 0,.int .i64 0,.int .i64 0,.int .i64 0,.int .u32 0,.slice none 0 0]) hir hz0ir ?_);intro w8 g8 hg8 r8 b8 s8;have hg8z:=hS.2.2.size;rw [hg8] at hg8z;have hne8:w.heap.size+1≠g8:=by have:=hS.2.1.lt;omega
   have hne9:w.heap.size≠g8:=by have:=hS.1.lt;omega
   have HR8:=hid (show Row w8 g8 73 ZR from r8);rw [← hg8] at b8;have HO5:=hid ((show OB _ _ _ _ from HO5.out).below b8);have hS3:=And.intro (hS.1.below b8 hS.1.lt) (And.intro (hS.2.1.below b8 hS.2.1.lt) (hS.2.2.trans (b8.mono hS.2.2.size)));clear r8 b8 s8 hg8;refine hK.out _ _ hS3 (fun hS2=> ?_);clear hK K hS;have hS:=hS2;clear hS2;try simp only [aS,aN,aA,a0,a1]
   refine Org.gA fun K hK=> ?_
   have f0:=HR8.out.frozen 0;have f1:=HR8.out.frozen 1;have f2:=HR8.out.frozen 2;have f3:=HR8.out.frozen 3;have f4:=HR8.out.frozen 4;have f5:=HR8.out.frozen 5;have f6:=HR8.out.frozen 6;have f7:=HR8.out.frozen 7;have c0:=HR8.out.cell 0;have c1:=HR8.out.cell 1;have c2:=HR8.out.cell 2;have c3:=HR8.out.cell 3;have c4:=HR8.out.cell 4;have c5':=HR8.out.cell 5;have c6:=HR8.out.cell 6;have c7:=HR8.out.cell 7;simp only [ZR,ZgS,ZgZ] at c0 c1 c2 c3 c4 c5' c6 c7;have R8:=row8' HR8.out (.int .i64 oo) (.int .i64 ob) (.int .i64 oi) (.int .i64 m.P.K) (.int .i64 m.P.H) (.int .i64 m.P.S) (.int .u32 0) (.slice A5 ns c5)
   have hS3:=And.intro (far8 hS.1 hne9 (.int .i64 oo) (.int .i64 ob) (.int .i64 oi) (.int .i64 m.P.K) (.int .i64 m.P.H) (.int .i64 m.P.S) (.int .u32 0) (.slice A5 ns c5)) (And.intro (far8 hS.2.1 hne8 (.int .i64 oo) (.int .i64 ob) (.int .i64 oi) (.int .i64 m.P.K) (.int .i64 m.P.H) (.int .i64 m.P.S) (.int .u32 0) (.slice A5 ns c5)) (below8' hS.2.2 hg8z (.int .i64 oo) (.int .i64 ob) (.int .i64 oi) (.int .i64 m.P.K) (.int .i64 m.P.H) (.int .i64 m.P.S) (.int .u32 0) (.slice A5 ns c5)));have HRR:=hid R8;have HOF:=hid (own8 HO5.out HR8.out (.int .i64 oo) (.int .i64 ob) (.int .i64 oi) (.int .i64 m.P.K) (.int .i64 m.P.H) (.int .i64 m.P.S) (.int .u32 0) (.slice A5 ns c5));go_simp
   refine hK.out _ _ hS3 (fun hS2=> ?_);clear hK K hS;have hS:=hS2;clear hS2;try simp only [aS,aN,aA,a0,a1]
   refine Org.done (by kernel_rfl) ?_;go_wp2_with fail;go_meet
   exact ⟨g8,⟨oo,ob,oi,m.P,0,l5⟩,A5,ns,c5,rfl,⟨hS.1,hS.2.1,HRR.out,HOF.out,hS.2.2,hg8z,hne8,HMAY.out l5 HL5.out,HL5.out⟩⟩
  ·skip
   (refine Zz5r 73 (by rfl) ir (.agg #[.int .i64 0,.int .i64 0,.int .i64 0,.int .i64 0,.int .i64 0,.int .i64 0,.int .u32 0,.slice none 0 0]) hir hz0ir ?_);intro w8 g8 hg8 r8 b8 s8;have hg8z:=hS.2.2.size;rw [hg8] at hg8z;have hne8:w.heap.size+1≠g8:=by have:=hS.2.1.lt;omega
   have hne9:w.heap.size≠g8:=by have:=hS.1.lt;omega
   have HR8:=hid (show Row w8 g8 73 ZR from r8);rw [← hg8] at b8;have hS3:=And.intro (hS.1.below b8 hS.1.lt) (And.intro (hS.2.1.below b8 hS.2.1.lt) (hS.2.2.trans (b8.mono hS.2.2.size)));clear r8 b8 s8 hg8;refine hK.out _ _ hS3 (fun hS2=> ?_);clear hK K hS;have hS:=hS2;clear hS2;try simp only [aS,aN,aA,a0,a1]
   refine Org.gA fun K hK=> ?_
   go_simp;refine (Zzas ns m.P.S bb _ HNS.out (by omega) hb64).mono ?_;rintro e w5 ⟨A5,c5,l5,rfl,hl5,o5,b5⟩;have HO5:=hid (Zz0b (base':=w.heap.size) (show OB _ _ _ _ from o5) hS.2.2.size);have HL5:=hid hl5;have HR8:=hid (HR8.out.below b5 HR8.out.lt);have hS3:=And.intro (hS.1.below b5 hS.1.lt) (And.intro (hS.2.1.below b5 hS.2.1.lt) (hS.2.2.trans (b5.mono hS.2.2.size)));clear o5 hl5 b5;go_wp2_with fail;refine hK.out _ _ hS3 (fun hS2=> ?_);clear hK K hS;have hS:=hS2;clear hS2;try simp only [aS,aN,aA,a0,a1]
   (refine Org.yV (SM.of hS) ?_;try simp only [aS,aN,aA,a0,a1]);refine Org.gA fun K hK=> ?_
   have f0:=HR8.out.frozen 0;have f1:=HR8.out.frozen 1;have f2:=HR8.out.frozen 2;have f3:=HR8.out.frozen 3;have f4:=HR8.out.frozen 4;have f5:=HR8.out.frozen 5;have f6:=HR8.out.frozen 6;have f7:=HR8.out.frozen 7;have c0:=HR8.out.cell 0;have c1:=HR8.out.cell 1;have c2:=HR8.out.cell 2;have c3:=HR8.out.cell 3;have c4:=HR8.out.cell 4;have c5':=HR8.out.cell 5;have c6:=HR8.out.cell 6;have c7:=HR8.out.cell 7;simp only [ZR,ZgS,ZgZ] at c0 c1 c2 c3 c4 c5' c6 c7;have R8:=row8' HR8.out (.int .i64 oo) (.int .i64 ob) (.int .i64 oi) (.int .i64 m.P.K) (.int .i64 m.P.H) (.int .i64 m.P.S) (.int .u32 0) (.slice A5 ns c5)
   have hS3:=And.intro (far8 hS.1 hne9 (.int .i64 oo) (.int .i64 ob) (.int .i64 oi) (.int .i64 m.P.K) (.int .i64 m.P.H) (.int .i64 m.P.S) (.int .u32 0) (.slice A5 ns c5)) (And.intro (far8 hS.2.1 hne8 (.int .i64 oo) (.int .i64 ob) (.int .i64 oi) (.int .i64 m.P.K) (.int .i64 m.P.H) (.int .i64 m.P.S) (.int .u32 0) (.slice A5 ns c5)) (below8' hS.2.2 hg8z (.int .i64 oo) (.int .i64 ob) (.int .i64 oi) (.int .i64 m.P.K) (.int .i64 m.P.H) (.int .i64 m.P.S) (.int .u32 0) (.slice A5 ns c5)));have HRR:=hid R8;have HOF:=hid (own8 HO5.out HR8.out (.int .i64 oo) (.int .i64 ob) (.int .i64 oi) (.int .i64 m.P.K) (.int .i64 m.P.H) (.int .i64 m.P.S) (.int .u32 0) (.slice A5 ns c5));go_simp
   refine hK.out _ _ hS3 (fun hS2=> ?_);clear hK K hS;have hS:=hS2;clear hS2;try simp only [aS,aN,aA,a0,a1]
   refine Org.done (by kernel_rfl) ?_;go_wp2_with fail;go_meet
   exact ⟨g8,⟨oo,ob,oi,m.P,0,l5⟩,A5,ns,c5,rfl,⟨hS.1,hS.2.1,HRR.out,HOF.out,hS.2.2,hg8z,hne8,HMAY.out l5 HL5.out,HL5.out⟩⟩
 case rest=>
 obtain ⟨g8,r,A,nr,c,rfl,hq⟩:=hcut;generalize wc=w3 at*;have HQ:=hid hq;have HRC:=hid ((HR.out.o.mono hB).below hq.be);have m7:=hq.m.cell 7;simp only [ZgS,ZgZ] at m7;clear hq;go_upto_region 3 with fail;obtain ⟨a7,ha7⟩:∃ q,a.tdiv 7=q:=⟨_,rfl⟩;have ha7b: -9223372036854775808≤a7∧a7≤9223372036854775807:=ha7 ▸ Zzgp ⟨ha1,ha2⟩;have hq7:IntKind.i64.wrap (a.tdiv 7)=a7:=by rw [ha7,IntKind.wrap_i64];omega
 clear ha7;go_cut [38] (fun s38 wx=>∃ b:Bool,s38= .bool b∧w3=wx∧Hid (b=true→0 < no))
 case first=>
  by_cases hn0:0 < no
  ·have hn0':(0:Int) < (no:Int):=by omega
   go_wp2_with fail;refine (Zz07 a7 6 _ ha7b.1 ha7b.2 (by omega) (by omega)).mono ?_;rintro e w5 ⟨rfl,rfl⟩;obtain ⟨v7,hv7⟩:∃ v,a7 % 6=v:=⟨_,rfl⟩;rw [hv7];go_wp2_with fail;go_meet
   exact ⟨_,rfl,rfl,hid (fun _=>hn0)⟩
  ·have hn0':¬ (0:Int) < (no:Int):=by omega
   go_wp2_with fail;go_meet
   exact ⟨false,rfl,rfl,hid (fun h=>by cases h)⟩
 case rest=>
 obtain ⟨b38,rfl,rfl,H38⟩:=hcut;go_upto_if 38 with fail
 clear m7;go_cut [] (fun wx=>∃ (r:Rec) (A:Option Addr) (nr c:Nat),PQ w wx g8 [.int .i64 m.seq,.int .i64 m.next,.int .i64 m.P.K,.int .i64 m.P.H,.int .i64 m.P.S,.int .i64 m.extra,.slice Ad nd cd,.slice Ao no co] r A nr c)
 case first=>
  cases b38 with
  | false=>
   go_wp2_with fail;go_meet
   exact ⟨r,A,nr,c,HQ.out⟩
  | true=>
   have hn0:=H38.out rfl;obtain ⟨k,hk,hkn⟩:∃ k:Nat,a % (no:Int)=(k:Int)∧k < no:=by
    have g0:=Int.emod_nonneg a (show (no:Int)≠0 by omega);have g1:=Int.emod_lt_of_pos a (show (0:Int) < (no:Int) by omega);exact ⟨(a % (no:Int)).toNat,by omega,by omega⟩
   have HK:=hid hk;clear hk;obtain ⟨b4,o4,A4,c4,eAo,hb4w,t0,t1,t2,t3,hc4,hc4m,hsl⟩:=HRC.out.get hkn;subst eAo;have hb4c:=Nat.lt_of_lt_of_le hb4w HQ.out.be.size;obtain ⟨y,hy⟩:∃ y,m.objs.getD k default=y:=⟨_,rfl⟩;rw [hy] at t0 t1 t2 t3 hc4 hsl;obtain ⟨nt,hnt⟩:∃ nt,y.tries.length=nt:=⟨_,rfl⟩;rw [hnt] at t3 hc4 hsl;have hyo:=HO.out y (by rw [← hy];exact Zzi8 (by rw [HRC.out.len];exact hkn));rw [hnt] at hyo;have T0:=hid t0;have T1:=hid t1;have T2:=hid t2;have T3:=hid t3;have HSL:=hid hsl;have HNT:=hid hnt;have hkn':(k:Int) < (no:Int):=by omega
   have hk0:(0:Int)≤(k:Int):=by omega
   clear t0 t1 t2 t3 hsl hy hnt;skip;go_upto_region 4 with fail;go_cut [9] (fun s9 wx=>∃ g9:Nat,s9= .pointer (some ⟨g9,0,none⟩)∧w3.heap.size≤g9∧Row wx g9 61 [.string (strB y.name),.int .i64 y.obj,.int .i64 y.len,.slice A4 nt c4]∧Below w3.heap.size w3 wx)
   case first=>
    refine Org.begin [] (fun w'=>Below w3.heap.size w3 w') [0,1,2,3,4,5,6,7,8,9,10,11] (by kernel_rfl) (Zz05 (Below.refl _ _)) (fun hS=> ?_);(refine Org.yV (SM.of hS) ?_;try simp only [aS,aN,aA,a0,a1]);(refine Org.yA (v:= ?_) (SM.of hS) ?_ ?_;rotate_left;(focus (intro w hSw;(try dsimp only at hSw);have q7:=(HQ.out.m.below hSw HQ.out.m.lt).cell 7;simp only [ZgS,ZgZ] at q7;refine Pure.val ?_;go_simp;(try with_reducible rfl);done));try simp only [aS,aN,aA,a0,a1]);iterate 3 (refine Org.yV (SM.of hS) ?_;try simp only [aS,aN,aA,a0,a1])
    (refine Org.yA (v:= ?_) (SM.of hS) ?_ ?_;rotate_left;(focus (intro w hSw;(try dsimp only at hSw);have q7:=(HQ.out.m.below hSw HQ.out.m.lt).cell 7;simp only [ZgS,ZgZ] at q7;refine Pure.val ?_;go_simp;(try with_reducible rfl);done));try simp only [aS,aN,aA,a0,a1]);(refine Org.yV (SM.of hS) ?_;try simp only [aS,aN,aA,a0,a1]);(refine Org.yA (v:= ?_) (SM.of hS) ?_ ?_;rotate_left;(focus (intro w hSw;(try dsimp only at hSw);refine Pure.call 27 #[.int .i64 a,.int .i64 (no:Int)] (by go_simp;first | done | rfl) ?_;refine (Zz07 a no _ (by omega) (by omega) (by omega) (by omega)).mono ?_;rintro e w' ⟨rfl,rfl⟩;rw [HK.out];refine ⟨?_,rfl⟩;with_reducible rfl));try simp only [aS,aN,aA,a0,a1])
    (refine Org.yV (SM.of hS) ?_;try simp only [aS,aN,aA,a0,a1]);(refine Org.yA (v:= ?_) (SM.of hS) ?_ ?_;rotate_left;(focus (intro w hSw;(try dsimp only at hSw);have d0:=(hSw.cell (p:=⟨b4,o4+k*4,none⟩) hb4c).trans T0.out;have d1:=(hSw.cell (p:=⟨b4,o4+k*4+1,none⟩) hb4c).trans T1.out;have d2:=(hSw.cell (p:=⟨b4,o4+k*4+2,none⟩) hb4c).trans T2.out;have d3:=(hSw.cell (p:=⟨b4,o4+k*4+3,none⟩) hb4c).trans T3.out;refine Pure.val ?_;go_simp;(try with_reducible rfl);done));try simp only [aS,aN,aA,a0,a1]);refine Org.gA fun K hK=> ?_
    (refine Zz5r 61 (by rfl) ie (.agg #[.string ⟨#[]⟩,.int .i64 0,.int .i64 0,.slice none 0 0]) hie hz0ie ?_);intro w8 g9 hg9 r9 b9 s9;have hg9z:=hS.size;rw [hg9] at hg9z;have HR9:=hid (show Row w8 g9 61 [.string ⟨#[]⟩,.int .i64 0,.int .i64 0,.slice none 0 0] from r9);rw [← hg9] at b9;have hS3:=hS.trans (b9.mono hS.size);clear r9 b9 s9 hg9;refine hK.out _ _ hS3 (fun hS2=> ?_);clear hK K hS;have hS:=hS2;clear hS2;try simp only [aS,aN,aA,a0,a1]
    refine Org.gA fun K hK=> ?_
    have f0:=HR9.out.frozen 0;have f1:=HR9.out.frozen 1;have f2:=HR9.out.frozen 2;have f3:=HR9.out.frozen 3;have c0:=HR9.out.cell 0;have c1:=HR9.out.cell 1;have c2:=HR9.out.cell 2;have c3:=HR9.out.cell 3;simp only [ZgS,ZgZ] at c0 c1 c2 c3;have R9:=row4' HR9.out (.string (strB y.name)) (.int .i64 y.obj) (.int .i64 y.len) (.slice A4 nt c4);have hS3:=below4' hS hg9z (.string (strB y.name)) (.int .i64 y.obj) (.int .i64 y.len) (.slice A4 nt c4);have HRR:=hid R9;go_simp;refine hK.out _ _ hS3 (fun hS2=> ?_);clear hK K hS;have hS:=hS2;clear hS2;try simp only [aS,aN,aA,a0,a1]
    refine Org.done (by kernel_rfl) ?_;go_wp2_with fail;go_meet
    exact ⟨g9,rfl,hg9z,HRR.out,hS⟩
   case rest=>
   obtain ⟨g9,rfl,hg9,h9,hbx⟩:=hcut;generalize wc=wx at*;have hQ5:=HQ.out.below hbx;have f0:=hQ5.r.frozen 0;have r0:=hQ5.r.cell 0;have e1:=h9.cell 1;have hne9:g9≠g8:=Zz9f h9 hQ5.r (by decide);have h95:=h9.far (p:=⟨g8,0,none⟩) hne9 (.int .i64 y.obj);have e3:=h95.cell 3;simp only [RecCells,ZgS,ZgZ] at r0 e1 e3;have HQ6:=hid (hQ5.set_ (j:=0) (v:= .int .i64 y.obj) (q':={ r with O:=y.obj}) rfl rfl (may_o hQ5.may ⟨hyo.1,hyo.2.1⟩));have HSL6:=hid ((HSL.out.below (hbx.mono HQ.out.be.size)).below ((Below.refl _ _).setCell (p:=(⟨g8,0,none⟩:Addr)) HQ.out.ge (.int .i64 y.obj)));have R96:=hid h95;clear h95 hQ5 hbx;by_cases hnt0:0 < nt
   ·have hnt0':(0:Int) < (nt:Int):=by omega
    obtain ⟨kb,hkb,hkbn⟩:∃ kb:Nat,a20 % (nt:Int)=(kb:Int)∧kb < nt:=by
     have g0:=Int.emod_nonneg a20 (show (nt:Int)≠0 by omega);have g1:=Int.emod_lt_of_pos a20 (show (0:Int) < (nt:Int) by omega);exact ⟨(a20 % (nt:Int)).toNat,by omega,by omega⟩
    have HKB:=hid hkb;clear hkb;have hq20:IntKind.i64.wrap (a.tdiv 20)=a20:=by rw [HA20.out,IntKind.wrap_i64];omega
    go_upto_region 7 with fail;generalize wx.setCell ⟨g8,0,none⟩ (.int .i64 y.obj)=w6 at*;have f1:=HQ6.out.r.frozen 1;have r1:=HQ6.out.r.cell 1;simp only [RecCells,ZgS,ZgZ] at r1;have HQ8':=hid (HQ6.out.set_ (j:=1) (v:= .int .i64 (kb:Int)) (q':={ ({ r with O:=y.obj}:Rec) with B:=(kb:Int)}) rfl rfl (may_b HQ6.out.may ⟨by omega,by omega⟩));have HSL8:=hid (HSL6.out.below ((Below.refl _ _).setCell (p:=(⟨g8,1,none⟩:Addr)) HQ.out.ge (.int .i64 (kb:Int))));have R98':=hid (R96.out.far (p:=⟨g8,1,none⟩) hne9 (.int .i64 (kb:Int)));go_wp2_with fail;refine (Zz07 a20 nt _ ha20b.1 ha20b.2 (by omega) (by omega)).mono ?_;rintro e w7 ⟨rfl,rfl⟩;rw [HKB.out];go_upto_region 8 with fail;clear f1 r1 e3
    generalize w6.setCell ⟨g8,1,none⟩ (.int .i64 (kb:Int))=w8 at*;obtain ⟨b7,o7,e7,hb7,hct⟩:=HSL8.out.get hkbn (Zz45 y.tries kb (by rw [HNT.out];exact hkbn));subst e7;have hkbn':(kb:Int) < (nt:Int):=by omega
    have hkb0:(0:Int)≤(kb:Int):=by omega
    obtain ⟨z,hz⟩:∃ z,y.tries.getD kb 0=z:=⟨_,rfl⟩;rw [hz] at hct;have qz8:=hct;have HQ8:=HQ8';have R98:=R98';clear HQ8' R98' hct hz;skip;refine Org.begin [12] (fun w'=>PQ w w' g8 [.int .i64 m.seq,.int .i64 m.next,.int .i64 m.P.K,.int .i64 m.P.H,.int .i64 m.P.S,.int .i64 m.extra,.slice Ad nd cd,.slice (some ⟨b4,o4,none⟩) no co] ({ ({ r with O:=y.obj}:Rec) with B:=(kb:Int)}:Rec) A nr c∧Row w' g9 61 [.string (strB y.name),.int .i64 y.obj,.int .i64 y.len,.slice (some ⟨b7,o7,none⟩) nt c4]∧w'.cell? ⟨b7,o7+kb,none⟩=some (.int .i64 z)) [0,1,2,3,4,5,6,7,8,9,10,11,12] (by kernel_rfl) (⟨HQ8.out.below (Zz05 (Below.refl _ _)),R98.out.below (Zz05 (Below.refl _ _)) R98.out.lt,qz8⟩) (fun hS=> ?_)
    (refine Org.yV (SM.of hS) ?_;try simp only [aS,aN,aA,a0,a1]);(refine Org.yA (v:= ?_) (SM.of hS) ?_ ?_;rotate_left;(focus (intro w hSw;(try dsimp only at hSw);have q0:=hSw.1.r.cell 0;have q1:=hSw.1.r.cell 1;simp only [RecCells,ZgS,ZgZ] at q0 q1;refine Pure.val ?_;go_simp;(try with_reducible rfl);done));try simp only [aS,aN,aA,a0,a1]);(refine Org.yV (SM.of hS) ?_;try simp only [aS,aN,aA,a0,a1]);(refine Org.yA (v:= ?_) (SM.of hS) ?_ ?_;rotate_left;(focus (intro w hSw;(try dsimp only at hSw);have q0:=hSw.1.r.cell 0;have q1:=hSw.1.r.cell 1;simp only [RecCells,ZgS,ZgZ] at q0 q1;refine Pure.val ?_;go_simp;(try with_reducible rfl);done));try simp only [aS,aN,aA,a0,a1])
    (refine Org.yV (SM.of hS) ?_;try simp only [aS,aN,aA,a0,a1]);(refine Org.yA (v:= ?_) (SM.of hS) ?_ ?_;rotate_left;(focus (intro w hSw;(try dsimp only at hSw);have q3:=hSw.2.1.cell 3;simp only [ZgS,ZgZ] at q3;refine Pure.val ?_;go_simp;(try with_reducible rfl);done));try simp only [aS,aN,aA,a0,a1]);(refine Org.yV (SM.of hS) ?_;try simp only [aS,aN,aA,a0,a1]);(refine Org.yA (v:= ?_) (SM.of hS) ?_ ?_;rotate_left;(focus (intro w hSw;(try dsimp only at hSw);have q0:=hSw.1.r.cell 0;have q1:=hSw.1.r.cell 1;simp only [RecCells,ZgS,ZgZ] at q0 q1;refine Pure.val ?_;go_simp;(try with_reducible rfl);done));try simp only [aS,aN,aA,a0,a1]);(refine Org.yV (SM.of hS) ?_;try simp only [aS,aN,aA,a0,a1])
    (refine Org.yA (v:= ?_) (SM.of hS) ?_ ?_;rotate_left;(focus (intro w hSw;(try dsimp only at hSw);have qz:=hSw.2.2;refine Pure.val ?_;go_simp;(try with_reducible rfl);done));try simp only [aS,aN,aA,a0,a1]);(refine Org.yA (v:= ?_) (SM.of hS) ?_ ?_;rotate_left;(focus (intro w hSw;(try dsimp only at hSw);refine Pure.call 72 #[.int .i64 y.obj,.int .i64 (kb:Int),.int .i64 z] (by go_simp;first | done | rfl) ?_;refine (Zz37 y.obj (kb:Int) z _).mono ?_;rintro e w' ⟨rfl,rfl⟩;refine ⟨?_,rfl⟩;with_reducible rfl));try simp only [aS,aN,aA,a0,a1]);(refine Org.yV (SM.of hS) ?_;try simp only [aS,aN,aA,a0,a1])
    refine Org.mark (p:=12) rfl (by kernel_rfl) (by kernel_rfl) (by kernel_rfl) (by kernel_rfl) (fun K hK=> ?_);have fz:=hS.1.r.frozen 6;have c6:=hS.1.r.cell 6;simp only [RecCells,ZgS,ZgZ] at c6;have HFIN:=hid (hS.1.set_ (j:=6) (v:= .int .u32 ((seedL y.obj kb z).toNat:Int)) (q':={ ({ ({ r with O:=y.obj}:Rec) with B:=(kb:Int)}:Rec) with S:=seedL y.obj kb z}) rfl rfl (may_s hS.1.may _));go_simp;refine hK.out _ _ ?_;clear hK K hS;try simp only [aS,aN,aA,a0,a1]
    refine Org.done (by kernel_rfl) ?_;go_wp2_with fail;go_meet
    exact ⟨_,A,nr,c,HFIN.out⟩
   ·have hnt0':¬ (0:Int) < (nt:Int):=by omega
    go_wp2_with fail;go_meet
    exact ⟨_,A,nr,c,HQ6.out⟩
 case rest=>
 obtain ⟨r2,A2,nr2,c2,hq2⟩:=hcut;generalize wc=w9 at*;have HQ2:=hid hq2;clear hq2;obtain ⟨b12,hb12⟩:∃ q,bb.tdiv 12=q:=⟨_,rfl⟩;have hb12b: -9223372036854775808≤b12∧b12≤9223372036854775807:=hb12 ▸ Zzdw ⟨hb1,hb2⟩;have hq12:IntKind.i64.wrap (bb.tdiv 12)=b12:=by rw [hb12,IntKind.wrap_i64];omega
 clear hb12;go_wp2_with fail;refine (Zz07 b12 9 _ hb12b.1 hb12b.2 (by omega) (by omega)).mono ?_;rintro e w5 ⟨rfl,rfl⟩;obtain ⟨kk,hkk⟩:∃ v,b12 % 9=v:=⟨_,rfl⟩;have hkk9:kk=7∨kk=8∨(¬ kk=7∧¬ kk=8):=by omega
 rw [hkk];clear hkk hq12;go_upto_block 0 with fail
 go_cut [] (fun wx=>∃ (r:Rec) (A:Option Addr) (nr c:Nat),PQ w wx g8 [.int .i64 m.seq,.int .i64 m.next,.int .i64 m.P.K,.int .i64 m.P.H,.int .i64 m.P.S,.int .i64 m.extra,.slice Ad nd cd,.slice Ao no co] r A nr c)
 case first=>
  rcases hkk9 with rfl | rfl | ⟨h7,h8⟩
  ·have fz:=HQ2.out.r.frozen 6
   have q6:=HQ2.out.r.cell 6;simp only [RecCells,ZgS,ZgZ] at q6;have e6:IntKind.u32.wrap ((r2.S.toNat:Int)+1)=((r2.S+1).toNat:Int):=by
    rw [IntKind.wrap_u32,BitVec.toNat_add];simp
   have HF:=hid (HQ2.out.set_ (j:=6) (v:= .int .u32 ((r2.S+1).toNat:Int)) (q':={ r2 with S:=r2.S+1}) rfl rfl (may_s HQ2.out.may _));go_wp2_with fail;go_meet
   exact ⟨_,_,_,_,HF.out⟩
  ·have fz:=HQ2.out.r.frozen 4
   have q4:=HQ2.out.r.cell 4;simp only [RecCells,ZgS,ZgZ] at q4;have hp:=Par.may_ok (Zzg3 HQ2.out.may);unfold Par.Ok at hp;obtain ⟨h4,hh4⟩:∃ v,r2.P.H % 4=v:=⟨_,rfl⟩;have e4:IntKind.i64.wrap (1+h4)=1+h4:=by rw [IntKind.wrap_i64];omega
   have HF:=hid (HQ2.out.set_ (j:=4) (v:= .int .i64 (1+h4)) (q':={ r2 with P:={ r2.P with H:=1+h4}}) rfl rfl (may_h HQ2.out.may ⟨by omega,by omega⟩));have HH4:=hid hh4;clear hh4;go_wp2_with fail;refine (Zz07 r2.P.H 4 _ (by omega) (by omega) (by omega) (by omega)).mono ?_;rintro e w6 ⟨rfl,rfl⟩;rw [HH4.out];go_wp2_with fail;go_meet
   exact ⟨_,_,_,_,HF.out⟩
  ·have t7:(kk==7)=false:=by simpa using h7
   have t8:(kk==8)=false:=by simpa using h8
   go_wp2_with fail;go_meet
   exact ⟨_,_,_,_,HQ2.out⟩
 case rest=>
 obtain ⟨r3,A3,nr3,c3,hq3⟩:=hcut;generalize wc=w10 at*;have q0:=hq3.r.cell 0;have z0:=hq3.z.cell 0;have y0:=hq3.z.frozen 0;have q1:=hq3.r.cell 1;have z1:=hq3.z.cell 1;have y1:=hq3.z.frozen 1;have q2:=hq3.r.cell 2;have z2:=hq3.z.cell 2;have y2:=hq3.z.frozen 2;have q3:=hq3.r.cell 3;have z3:=hq3.z.cell 3;have y3:=hq3.z.frozen 3;have q4:=hq3.r.cell 4;have z4:=hq3.z.cell 4;have y4:=hq3.z.frozen 4;have q5:=hq3.r.cell 5;have z5:=hq3.z.cell 5;have y5:=hq3.z.frozen 5;have q6:=hq3.r.cell 6;have z6:=hq3.z.cell 6;have y6:=hq3.z.frozen 6;have q7:=hq3.r.cell 7;have z7:=hq3.z.cell 7;have y7:=hq3.z.frozen 7;simp only [RecCells,ZR,ZgS,ZgZ] at q0 z0 q1 z1 q2 z2 q3 z3 q4 z4 q5 z5 q6 z6 q7 z7
 have R8:=row8' hq3.z (.int .i64 r3.O) (.int .i64 r3.B) (.int .i64 r3.I) (.int .i64 r3.P.K) (.int .i64 r3.P.H) (.int .i64 r3.P.S) (.int .u32 (r3.S.toNat:Int)) (.slice A3 nr3 c3);have HB8:=hid (below8' (g:=w.heap.size+1) hq3.be (Nat.le_succ _) (.int .i64 r3.O) (.int .i64 r3.B) (.int .i64 r3.I) (.int .i64 r3.P.K) (.int .i64 r3.P.H) (.int .i64 r3.P.S) (.int .u32 (r3.S.toNat:Int)) (.slice A3 nr3 c3));have HO8:=hid (own8 hq3.d hq3.z (.int .i64 r3.O) (.int .i64 r3.B) (.int .i64 r3.I) (.int .i64 r3.P.K) (.int .i64 r3.P.H) (.int .i64 r3.P.S) (.int .u32 (r3.S.toNat:Int)) (.slice A3 nr3 c3));have hne:=hq3.ne;have HMY:=hid hq3.may;have HLN:=hid hq3.len;obtain ⟨p0,p1,p2,p3,p4,p5,p6,p7⟩:=Row.c8 R8
 clear R8 hq3;go_wp2_with fail;refine bodyPost_ret (v:=r3.val (.slice A3 nr3 c3)) ?_ rfl ⟨r3,A3,nr3,c3,rfl,HMY.out,HLN.out,HO8.out,HB8.out⟩;unfold put8 at p0 p1 p2 p3 p4 p5 p6 p7;simp [results,Tryz.results34,go_sem,p0,p1,p2,p3,p4,p5,p6,p7]
 rfl
end Go.Proofs.YtnknjeipfjdjoaaGreatDoor
namespace Wells
open Go Go.RowKit
structure PEnt (P:Par) (i:Nat) (e:Ent):Prop where
 name:∃ x:Nat,x < 26∧e.name= [BitVec.ofNat 8 (97+2*i),BitVec.ofNat 8 (97+x)]
 obj:3*(i:Int)≤e.obj∧e.obj≤3*(i:Int)+2
 len:0≤e.len∧e.len≤P.K*P.S*4
 tries:∀ z∈e.tries,0≤z∧z≤15
 count:(e.tries.length:Int)=countP P e.len
structure PlayM (m:Mani):Prop where
 seq:1≤m.seq∧m.seq≤1000
 next:20≤m.next∧m.next≤119
 P:1≤m.P.K∧m.P.K≤6∧1≤m.P.H∧m.P.H≤3∧1≤m.P.S∧m.P.S≤9
 extra:0≤m.extra∧m.extra≤16
 dlen:m.drives.length≤8
 drives:StrictUp m.drives
 drv:∀ z∈m.drives,0≤z∧z≤56
 olen:m.objs.length≤5
 objs:∀ i,i < m.objs.length→PEnt m.P i (m.objs.getD i default)
theorem Zzcr {a b:UInt8} {x y:List UInt8} (h:a < b):Op.bytesLess (a::x) (b::y)=true:=by
 simp [Op.bytesLess,h]
theorem Zz4n (l:List Byte):(strB l).toList=l.map UInt8.ofBitVec:=by
 rw [ByteArray.toList_eq];unfold strB;simp
theorem PEnt.less {P:Par} {i:Nat} {e f:Ent} (he:PEnt P i e) (hf:PEnt P (i+1) f) (hi:i≤10):lessS e.name f.name=true:=by
 obtain ⟨x,_,hx⟩:=he.name;obtain ⟨y,_,hy⟩:=hf.name;unfold lessS;rw [hx,hy,Zz4n,Zz4n];simp only [List.map_cons];apply Zzcr
 rw [UInt8.lt_iff_toNat_lt];show (BitVec.ofNat 8 (97+2*i)).toNat < (BitVec.ofNat 8 (97+2*(i+1))).toNat;rw [BitVec.toNat_ofNat,BitVec.toNat_ofNat];omega
theorem PEnt.nameOk {P:Par} {i:Nat} {e:Ent} (he:PEnt P i e) (hi:i≤10):nameOk e.name=true:=by
 obtain ⟨x,hx0,hx⟩:=he.name;rw [hx];unfold Wells.nameOk;rw [Bool.and_eq_true];refine ⟨?_,by simp⟩;simp only [List.all_cons,List.all_nil,Bool.and_true,Bool.and_eq_true];refine ⟨?_,?_⟩ <;> (unfold nameC;rw [BitVec.toNat_ofNat];refine decide_eq_true ?_;omega)
theorem PlayM.parOk {m:Mani} (h:PlayM m):m.P.Ok:=by
 obtain ⟨h1,h2,h3,h4,h5,h6⟩:=h.P;unfold Par.Ok;omega
theorem PlayM.may {m:Mani} (h:PlayM m):m.may=true:=by
 have hP:=Par.ok_may h.parOk;have h1:=h.seq;have h2:=h.next;have h3:=h.extra;have h4:=h.olen;refine p_may ⟨by omega,by omega,hP,h3,h.drives.rise (fun z hz=>by have:=h.drv z hz;omega),by omega,fun i hi=> ?_⟩;have hs:=Par.size_le h.parOk;unfold Par.size at hs;have he:=h.objs i hi;obtain ⟨q,hq⟩:∃ q,m.P.K*m.P.S=q:=⟨_,rfl⟩;have hE:entB m (m.objs.getD i default)=true:=by
  unfold entB;rw [he.nameOk (by omega),Bool.true_and];have ho:=he.obj;have hl:=he.len;rw [hq] at hl hs;rw [hq,decide_eq_true (by omega),decide_eq_true (by omega),Bool.true_and,Bool.true_and,Bool.and_eq_true];refine ⟨?_,decide_eq_true he.count⟩;unfold triesOk;rw [List.all_eq_true];intro z hz;exact decide_eq_true (he.tries z hz)
 unfold objStep entAt;rw [hE,Bool.true_and,Bool.and_eq_true];refine ⟨?_,?_⟩
 ·by_cases h0:i=0
  ·simp [h0]
  ·obtain ⟨k,rfl⟩:∃ k,i=k+1:=⟨i - 1,by omega⟩
   rw [Nat.add_sub_cancel,(h.objs k (by omega)).less he (by omega),Bool.or_true]
 ·rw [List.all_eq_true]
  intro y hy;obtain ⟨j,hj,rfl⟩:=List.getElem_of_mem hy;have hji:j < i:=by have:=hj;rw [List.length_take] at this;omega
  have hpj:=(h.objs j (by omega)).obj;rw [ZgD,ZgE (by omega)] at hpj;simp only [Option.getD_some] at hpj;rw [List.getElem_take];have hoi:=he.obj;simp only [Bool.not_eq_true',decide_eq_false_iff_not];intro e;rw [e] at hpj;omega
theorem PlayM.m64 {m:Mani} (h:PlayM m):M64 m∧∀ e∈m.objs,e.name.length≤1048576:=by
 have h1:=h.seq;have h2:=h.next;have h3:=h.extra;obtain ⟨k1,k2,k3,k4,k5,k6⟩:=h.P;have hs:=Par.size_le h.parOk;unfold Par.size at hs;obtain ⟨q,hq⟩:∃ q,m.P.K*m.P.S=q:=⟨_,rfl⟩;rw [hq] at hs;have hob:∀ e∈m.objs,∃ i,i < m.objs.length∧PEnt m.P i e:=fun e he=>by
  obtain ⟨i,hi,rfl⟩:=List.getElem_of_mem he;have:=h.objs i hi
  rw [ZgD,ZgE hi] at this;exact ⟨i,hi,this⟩
 refine ⟨⟨by unfold i64;omega,by unfold i64;omega,by unfold i64;omega,by unfold i64;omega,by unfold i64;omega,by unfold i64;omega,fun z hz=> ?_,fun e he=> ?_⟩,fun e he=> ?_⟩
 ·have:=h.drv z hz;unfold i64;omega
 ·obtain ⟨i,hi,hp⟩:=hob e he
  have ho:=hp.obj;have hl:=hp.len;have h4:=h.olen;rw [hq] at hl;refine ⟨by unfold i64;omega,by unfold i64;omega,fun z hz=> ?_⟩;have:=hp.tries z hz;unfold i64;omega
 ·obtain ⟨i,hi,hp⟩:=hob e he
  obtain ⟨x,_,hx⟩:=hp.name;rw [hx];simp
def numAt (l:List Int) (k:Int):Int:=if 0≤k∧k < (l.length:Int) then l.getD k.toNat 0 else 0
theorem Zzg7 {l:List Int} (h:∀ z∈l,-9223372036854775808≤z∧z≤9223372036854775807) (k:Int): -9223372036854775808≤numAt l k∧numAt l k≤9223372036854775807:=by
 unfold numAt;split
 ·rename_i hk
  have:k.toNat < l.length:=by omega
  rw [ZgD,ZgE this];exact h _ (List.getElem_mem _)
 ·omega
end Wells
namespace Go.Proofs.YtnknjeipfjdjoaaGreatDoor
open Go.RowKit Wells
theorem Zz21 (B:Nat) (A:Option Addr) (n c:Nat) (l:List Int) (k r:Int) (w:World) (h:Sl w B 1 A n (l.map (Value.int .i64))) (hn:n≤9223372036854775807) (hk:0≤k∧k≤9223372036854775807) (hr:numAt l k=r):
  Calls Tryz.prog 28 #[.slice A n c,.int .i64 k] w fun e w'=>e= .returned (.int .i64 r)∧w=w':=by
 have hl:l.length=n:=by have:=h.len;simpa using this
 obtain ⟨j,rfl⟩:=Int.eq_ofNat_of_zero_le hk.1;by_cases hj:j < n
 ·obtain ⟨b,o,rfl,_,hc⟩:=h.get hj (by rw [List.getElem?_map,ZgE (show j < l.length by omega)];rfl)
  have hr2:l[j]'(by omega)=r:=by
   rw [← hr];unfold numAt;rw [if_pos (by omega),Int.toNat_natCast,ZgD,ZgE (show j < l.length by omega)];rfl
  rw [hr2] at hc;clear hr hr2 hl;go_enter Tryz.func28,Tryz.ntmps28;go_wp2_with fail;go_ret
  exact ⟨rfl,rfl⟩
 ·have hr2:0=r:=by
   rw [← hr];unfold numAt;rw [if_neg (by omega)]
  have HR:=hid hr2;clear hr hr2 hl;go_enter Tryz.func28,Tryz.ntmps28;go_wp2_with fail;go_ret
  exact ⟨Zz0z HR.out,rfl⟩
end Go.Proofs.YtnknjeipfjdjoaaGreatDoor
