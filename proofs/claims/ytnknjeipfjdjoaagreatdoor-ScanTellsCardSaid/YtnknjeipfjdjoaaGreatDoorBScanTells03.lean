/- Within Power RefPower -/
import Derived.Test.YtnknjeipfjdjoaaGreatDoorProg
import Derived.Test.YtnknjeipfjdjoaaGreatDoorBScanTells00
set_option maxHeartbeats 8000000
set_option maxRecDepth 20000
set_option linter.unusedSimpArgs false
set_option linter.unusedVariables false
namespace Go.Proofs.YtnknjeipfjdjoaaGreatDoor
open Go.RowKit Wells
theorem Zzhi (x n:Int) (hx:x < 0) (hn:1≤n):(x.tmod n < 0→x.tmod n+n=x % n)∧(¬ x.tmod n < 0→x.tmod n=x % n)∧ -n < x.tmod n∧x.tmod n≤0:=by
 have h1:=Int.emod_nonneg x (show n≠0 by omega);have h2:=Int.emod_lt_of_pos x (show 0 < n by omega);have h3:(n.natAbs:Int)=n:=by omega
 rw [Int.tmod_eq_emod];by_cases hd:n∣x
 ·have h5:x % n=0:=Int.emod_eq_zero_of_dvd hd
  simp [hd,h5];omega
 ·have h6:x % n≠0:=fun h=>hd (Int.dvd_of_emod_eq_zero h)
  rw [if_neg (by simp [hd];omega)];omega
theorem Zz07 (x n:Int) (w:World) (h1: -9223372036854775808≤x) (h2:x≤9223372036854775807) (h3:1≤n) (h4:n≤4611686018427387904):
  Calls Tryz.prog 27 #[.int .i64 x,.int .i64 n] w fun e w'=>e= .returned (.int .i64 (x % n))∧w=w':=by
 have hr:=Int.emod_nonneg x (show n≠0 by omega);have hr2:=Int.emod_lt_of_pos x (show 0 < n by omega);by_cases hx:0≤x
 ·go_enter Tryz.func27,Tryz.ntmps27
  go_wp2
  go_ret
  exact ⟨rfl,rfl⟩
 ·obtain ⟨t1,t2,t3,t4⟩:=Zzhi x n (by omega) h3
  by_cases ht:x.tmod n < 0
  ·have T1:=hid (t1 ht)
   clear t1 t2;go_enter Tryz.func27,Tryz.ntmps27;go_wp2
   go_ret
   exact ⟨Zz0z T1.out,rfl⟩
  ·have T2:=hid (t2 ht)
   clear t1 t2;go_enter Tryz.func27,Tryz.ntmps27;go_wp2
   go_ret
   exact ⟨Zz0z T2.out,rfl⟩
end Go.Proofs.YtnknjeipfjdjoaaGreatDoor
namespace Wells
open Go Go.RowKit
structure Pw where
 off:Bool
 armed:Bool
 left:Int
 offs:Int
def pw (s:Pw):List Value:= [.bool s.off,.bool s.armed,.int .i64 s.left,.int .i64 s.offs]
def Pw.new:Pw:=⟨false,false,0,0⟩
def Pw.step (s:Pw):Pw:=if s.off then s else if s.armed then (if s.left=0 then { s with off:=true,offs:=s.offs+1} else { s with left:=s.left - 1}) else s
def Pw.goes (s:Pw):Bool:= !s.off && (!s.armed || !decide (s.left=0))
theorem Zz2z {w wr:World} {g:Nat} (h:w.grownBy wr (some g)) (j:Nat) (u:Value):w.grownBy (wr.setCell ⟨g,j,none⟩ u) (some g):=
 ⟨h.os,h.tape,h.output,by simpa [World.setCell] using h.size,fun i hi hne=>(Below.heap_setCell wr ⟨g,j,none⟩ u i (fun e=>hne (by rw [e]))).trans (h.block i hi hne)⟩
end Wells
namespace Go.Proofs.YtnknjeipfjdjoaaGreatDoor
open Go.RowKit Wells
theorem Zzbt (w:World):Calls Tryz.prog 26 #[] w fun e w'=>∃ g,e= .returned (.pointer (some ⟨g,0,none⟩))∧w.heap.size≤g∧Row w' g 106 (pw Pw.new)∧Below w.heap.size w w':=by
 go_enter Tryz.func26,Tryz.ntmps26;go_wp2
 go_ret
 refine ⟨_,rfl,ZnR _,Row.new w _ _,(Below.refl _ _).alloc (ZnR _) _⟩
theorem Zz6f (g:Nat) (s:Pw) (w:World) (h:Row w g 106 (pw s)):Calls Tryz.prog 74 #[.pointer (some ⟨g,0,none⟩)] w fun e w'=>e= .returned (.bool (!s.off))∧w=w':=by
 have h0:w.cell? ⟨g,0,none⟩=some (.bool s.off):=h.cell 0;go_enter Tryz.func74,Tryz.ntmps74;go_wp2
 go_ret
 exact ⟨rfl,rfl⟩
theorem Zz8r (g:Nat) (s:Pw) (w:World) (h:Row w g 106 (pw s)) (hl:0≤s.left∧s.left≤9223372036854775807) (ho:0≤s.offs∧s.offs < 4611686018427387904):
  Calls Tryz.prog 76 #[.pointer (some ⟨g,0,none⟩)] w fun e w'=>e= .returned (.bool s.goes)∧Row w' g 106 (pw s.step)∧w.grownBy w' (some g):=by
 obtain ⟨off,armed,left,offs⟩:=s;obtain ⟨l1,l2⟩:=hl;obtain ⟨o1,o2⟩:=ho;dsimp only at l1 l2 o1 o2;have h0:w.cell? ⟨g,0,none⟩=some (.bool off):=h.cell 0;have h1:w.cell? ⟨g,1,none⟩=some (.bool armed):=h.cell 1;have h2:w.cell? ⟨g,2,none⟩=some (.int .i64 left):=h.cell 2;have h3:w.cell? ⟨g,3,none⟩=some (.int .i64 offs):=h.cell 3;have f0:=h.frozen 0;have f1:=h.frozen 1;have f2:=h.frozen 2;have f3:=h.frozen 3;have H:=hid h;clear h;cases off
 ·cases armed
  ·go_enter Tryz.func76,Tryz.ntmps76
   go_wp2_with fail;refine (Zz6f g _ _ H.out).mono ?_;rintro e w1 ⟨rfl,rfl⟩;go_wp2
   go_ret
   exact ⟨rfl,H.out,World.grownBy.refl w _⟩
  ·by_cases hz:left=0
   ·subst hz
    go_enter Tryz.func76,Tryz.ntmps76;go_wp2_with fail;refine (Zz6f g _ _ H.out).mono ?_;rintro e w1 ⟨rfl,rfl⟩;go_wp2
    go_ret
    refine ⟨rfl,((H.out.set 0 _).set 3 _).to ?_,Zz2z (Zz2z (World.grownBy.refl w _) _ _) _ _⟩;simp [pw,Pw.step]
   ·have hb:(left==0)=false:=by simp [hz]
    go_enter Tryz.func76,Tryz.ntmps76;go_wp2_with fail;refine (Zz6f g _ _ H.out).mono ?_;rintro e w1 ⟨rfl,rfl⟩;go_wp2
    go_ret
    refine ⟨Zz0a (by simp [Pw.goes,hz]),(H.out.set 2 _).to ?_,Zz2z (World.grownBy.refl w _) _ _⟩;simp [pw,Pw.step,hz]
 ·go_enter Tryz.func76,Tryz.ntmps76
  go_wp2_with fail;refine (Zz6f g _ _ H.out).mono ?_;rintro e w1 ⟨rfl,rfl⟩;go_wp2
  go_ret
  exact ⟨rfl,H.out,World.grownBy.refl w _⟩
end Go.Proofs.YtnknjeipfjdjoaaGreatDoor
namespace Wells
open Go Go.RowKit
structure PwRel (s r:Pw):Prop where
 off:r.off=s.off
 armed:r.armed=s.armed
 offs:r.offs=s.offs
 left:s.armed=true→r.left=s.left
 lo:0≤s.left
 hi:s.left≤9223372036854775807
 pos:0≤s.offs
theorem PwRel.new:PwRel Pw.new Pw.new:=⟨rfl,rfl,rfl,fun _=>rfl,by decide,by decide,by decide⟩
theorem PwRel.step {s r:Pw} (h:PwRel s r):PwRel s.step r.step∧r.goes=s.goes∧s.step.offs≤s.offs+1:=by
 obtain ⟨off,armed,left,offs⟩:=s;obtain ⟨off',armed',left',offs'⟩:=r;obtain ⟨h1,h2,h3,h4,h5,h6,h7⟩:=h;dsimp only at h1 h2 h3 h4 h5 h6 h7;subst h1 h2 h3;cases off'
 ·cases armed'
  ·exact ⟨⟨rfl,rfl,rfl,h4,h5,h6,h7⟩,rfl,by simp [Pw.step];omega⟩
  ·have:=h4 rfl
   subst this;by_cases hz:left'=0
   ·subst hz
    exact ⟨⟨rfl,rfl,rfl,fun _=>rfl,by simp [Pw.step],by simp [Pw.step],by simp [Pw.step];omega⟩,rfl,by simp [Pw.step]⟩
   ·refine ⟨⟨?_,?_,?_,?_,?_,?_,?_⟩,rfl,?_⟩ <;> simp [Pw.step,hz] <;> omega
 ·exact ⟨⟨rfl,rfl,rfl,h4,h5,h6,h7⟩,rfl,by simp [Pw.step];omega⟩
end Wells
namespace Go.Proofs.YtnknjeipfjdjoaaGreatDoor
open Go.RowKit Wells
theorem Zz8u (g:Nat) (s:Pw) (w:World) (h:Row w g 79 (pw s)) (hl:s.armed=true→0≤s.left∧s.left≤9223372036854775807) (ho:0≤s.offs∧s.offs < 4611686018427387904):
  Calls Tryz.prog 78 #[.pointer (some ⟨g,0,none⟩)] w fun e w'=>e= .returned (.bool s.goes)∧Row w' g 79 (pw s.step)∧w.grownBy w' (some g):=by
 obtain ⟨off,armed,left,offs⟩:=s;obtain ⟨o1,o2⟩:=ho;dsimp only at hl o1 o2;have h0:w.cell? ⟨g,0,none⟩=some (.bool off):=h.cell 0;have h1:w.cell? ⟨g,1,none⟩=some (.bool armed):=h.cell 1;have h2:w.cell? ⟨g,2,none⟩=some (.int .i64 left):=h.cell 2;have h3:w.cell? ⟨g,3,none⟩=some (.int .i64 offs):=h.cell 3;have f0:=h.frozen 0;have f1:=h.frozen 1;have f2:=h.frozen 2;have f3:=h.frozen 3;have H:=hid h;clear h;cases off
 ·cases armed
  ·clear hl
   go_enter Tryz.func78,Tryz.ntmps78;go_wp2
   go_ret
   exact ⟨rfl,H.out,World.grownBy.refl w _⟩
  ·obtain ⟨l1,l2⟩:=hl rfl
   clear hl;by_cases hz:left=0
   ·subst hz
    go_enter Tryz.func78,Tryz.ntmps78;go_wp2
    go_ret
    refine ⟨rfl,((H.out.set 0 _).set 3 _).to ?_,Zz2z (Zz2z (World.grownBy.refl w _) _ _) _ _⟩;simp [pw,Pw.step]
   ·have hb:(left==0)=false:=by simp [hz]
    go_enter Tryz.func78,Tryz.ntmps78;go_wp2
    go_ret
    refine ⟨Zz0a (by simp [Pw.goes,hz]),(H.out.set 2 _).to ?_,Zz2z (World.grownBy.refl w _) _ _⟩;simp [pw,Pw.step,hz]
 ·clear hl
  go_enter Tryz.func78,Tryz.ntmps78;go_wp2
  go_ret
  exact ⟨rfl,H.out,World.grownBy.refl w _⟩
end Go.Proofs.YtnknjeipfjdjoaaGreatDoor
