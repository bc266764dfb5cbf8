/- Chunk RefCount -/
import Derived.Deep.QuietTactic
import Derived.BigQuiet
import Derived.Test.YtnknjeipfjdjoaaGreatDoorBScanTells04
set_option maxHeartbeats 8000000
set_option maxRecDepth 20000
set_option linter.unusedSimpArgs false
set_option linter.unusedVariables false
namespace Go.Proofs.YtnknjeipfjdjoaaGreatDoor
open Go.RowKit Wells
theorem Zzgo (p:Par) (r:Int) (w:World) (h:p.Ok) (hr:p.size=r):Calls Tryz.prog 130 #[p.val] w fun e w'=>e= .returned (.int .i64 r)∧Below w.heap.size w w':=by
 subst hr;have hb:=Par.size_le h;obtain ⟨h1,h2,_,_,h5,h6⟩:=h;obtain ⟨K,H,S⟩:=p;unfold Par.val Par.size at*;dsimp only at*;go_enter Tryz.func130,Tryz.ntmps130;go_wp2
 go_ret
 exact ⟨rfl,(Below.refl _ _).alloc (ZnR _) _⟩
theorem Zz92 (p:Par) (n m:Int) (w:World) (hn: -9223372036854775808≤n∧n≤9223372036854775807) (hm:countP p n=m):Calls Tryz.prog 119 #[p.val,.int .i64 n] w fun e w'=>e= .returned (.int .i64 m)∧Below w.heap.size w w':=by
 have HM:=hid hm;clear hm;by_cases h1:p.may=true
 ·have hok:=Par.may_ok h1
  have hsz:=Par.size_le hok;by_cases h2:0 < n
  ·have hz:countP p n=(n - 1) / p.size+1:=Zzd8 h1 h2
   have hq0:0≤(n - 1) / p.size:=Int.ediv_nonneg (by omega) (by omega);have hq1:(n - 1) / p.size≤n - 1:=Int.ediv_le_self _ (by omega);obtain ⟨K,H,S⟩:=p;have HZ:=hid hz;have H1:=hid h1;have HO:=hid hok;clear hz h1 hok;generalize hsv:Par.size ⟨K,H,S⟩=sv at*;have HSV:=hid hsv;clear hsv;unfold Par.val at*;go_enter Tryz.func119,Tryz.ntmps119;go_wp2_with fail;refine (Zz1m ⟨K,H,S⟩ true _ H1.out).mono ?_;rintro e w1 ⟨rfl,hb⟩;have hc:∀ o,o < 3→w1.cell? ⟨w.heap.size,o,none⟩=(w.alloc (.cells #[.int .i64 K,.int .i64 H,.int .i64 S] 25)).cell? ⟨w.heap.size,o,none⟩:=fun o _=>hb.cell (p:=⟨w.heap.size,o,none⟩) (by simp)
   have hb':Below w.heap.size w w1:=((Below.refl _ _).alloc (ZnR _) _).trans (hb.mono (by simp));have hc0:=hc 0 (by omega);have hc1:=hc 1 (by omega);have hc2:=hc 2 (by omega);clear hc;go_wp2_with fail;refine (Zzgo ⟨K,H,S⟩ sv _ HO.out HSV.out).mono ?_;rintro e w2 ⟨rfl,hb2⟩;go_wp2
   go_ret
   exact ⟨Zz0z (HZ.out.symm.trans HM.out),hb'.trans (hb2.mono hb'.size)⟩
  ·have hz:countP p n=0:=Zz3n (fun h=>h2 h.2)
   obtain ⟨K,H,S⟩:=p;have HZ:=hid hz;have H1:=hid h1;clear hz h1 hok hsz;unfold Par.val at*;go_enter Tryz.func119,Tryz.ntmps119;go_wp2_with fail;refine (Zz1m ⟨K,H,S⟩ true _ H1.out).mono ?_;rintro e w1 ⟨rfl,hb⟩;go_wp2
   go_ret
   exact ⟨Zz0z (HZ.out.symm.trans HM.out),((Below.refl _ _).alloc (ZnR _) _).trans (hb.mono (by simp))⟩
 ·have h1':p.may=false:=by simpa using h1
  have hz:countP p n=0:=Zz3n (fun h=>h1 h.1);obtain ⟨K,H,S⟩:=p;unfold Par.val at*;go_enter Tryz.func119,Tryz.ntmps119;go_wp2_with fail;refine (Zz1m ⟨K,H,S⟩ false _ h1').mono ?_;rintro e w1 ⟨rfl,hb⟩;go_wp2
  go_ret
  exact ⟨Zz0z (hz.symm.trans HM.out),((Below.refl _ _).alloc (ZnR _) _).trans (hb.mono (by simp))⟩
end Go.Proofs.YtnknjeipfjdjoaaGreatDoor
namespace Wells
open Go Go.RowKit
theorem Zzec (n s:Int) (hn:0≤n) (hs:1≤s):(n / s+if 0 < n % s then 1 else 0)=if 0 < n then (n - 1) / s+1 else 0:=by
 have h1:=Int.mul_ediv_add_emod n s;have h2:=Int.emod_nonneg n (show s≠0 by omega);have h3:=Int.emod_lt_of_pos n (show 0 < s by omega);have key:∀ a q r:Int,a=s*q+r→0≤r→r < s→a / s=q:=by
  intro a q r ha h0 h4;rw [ha,Int.add_comm,Int.add_mul_ediv_left _ _ (by omega),Int.ediv_eq_zero_of_lt h0 h4,Int.zero_add]
 generalize n / s=q at*;generalize n % s=r at*;by_cases hp:0 < n
 ·rw [if_pos hp]
  by_cases hr:0 < r
  ·rw [if_pos hr,key (n - 1) q (r - 1) (by omega) (by omega) (by omega)]
  ·rw [if_neg hr,key (n - 1) (q - 1) (s - 1) (by rw [Int.mul_sub];omega) (by omega) (by omega)]
   omega
 ·rw [if_neg hp]
  have hn0:n=0:=by omega
  subst hn0;have hq:q=0:=by
   have h5:s*q≤0:=by omega
   have h6:0≤s*q+r:=by omega
   rcases Int.lt_trichotomy q 0 with hh | hh | hh
   ·have:s*q≤s*(-1):=Int.mul_le_mul_of_nonneg_left (by omega) (by omega)
    omega
   ·exact hh
   ·have:s*1≤s*q:=Int.mul_le_mul_of_nonneg_left (by omega) (by omega)
    omega
  subst hq;have:r=0:=by omega
  subst this;simp
end Wells
namespace Go.Proofs.YtnknjeipfjdjoaaGreatDoor
open Go.RowKit Wells
theorem Zz16 (p:Par) (n m:Int) (w:World) (hn: -9223372036854775808≤n∧n≤9223372036854775807) (hm:countP p n=m):Calls Tryz.prog 31 #[p.val,.int .i64 n] w fun e w'=>e= .returned (.int .i64 m)∧Below w.heap.size w w':=by
 have HM:=hid hm;clear hm;have hv:p.val= .agg #[.int .i64 p.K,.int .i64 p.H,.int .i64 p.S]:=rfl;rw [hv];clear hv;by_cases h1:p.may=true
 ·by_cases h2:n < 0
  ·have hz:=hid (show countP p n=0 from Zz3n (fun h=>by omega))
   go_enter Tryz.func31,Tryz.ntmps31;go_wp2_with fail;refine (Zz1n p true _ h1).mono ?_;rintro e w1 ⟨rfl,hb⟩;go_wp2
   go_ret
   exact ⟨Zz0z (hz.out.symm.trans HM.out),((Below.refl _ _).alloc (ZnR _) _).trans (hb.mono (by simp))⟩
  ·have hok:=Par.may_ok h1
   have hsz:=Par.size_le hok;have ha:=Zzec n p.size (by omega) hsz.1;have hq0:0≤n / p.size:=Int.ediv_nonneg (by omega) (by omega);have hq1:n / p.size≤n:=Int.ediv_le_self _ (by omega);have hcp:countP p n=if 0 < n then (n - 1) / p.size+1 else 0:=by
    unfold countP;by_cases h3:0 < n <;> simp [h1,h3]
   have HC:=hid (hcp.symm.trans HM.out);have HA:=hid ha;have H1:=hid h1;have hr:=Int.emod_nonneg n (show p.size≠0 by omega);have hq2:0 < n % p.size→n / p.size+1≤n:=by
    intro h5;have h6:=Int.mul_ediv_add_emod n p.size;have h7:1*(n / p.size)≤p.size*(n / p.size):=Int.mul_le_mul_of_nonneg_right hsz.1 hq0;omega
   unfold Par.size at*;obtain ⟨o1,o2,o3,o4,o5,o6⟩:=hok;clear h1 ha hcp;by_cases h3:0 < n % (p.K*p.S)
   all_goals
    first | have hq3:=hq2 h3 | skip
    clear hq2
    first | rw [if_pos h3] at HA | rw [if_neg h3] at HA
   all_goals
    go_enter Tryz.func31,Tryz.ntmps31;go_wp2_with fail;refine (Zz1n p true _ H1.out).mono ?_;rintro e w1 ⟨rfl,hb⟩;obtain ⟨c0,c1,c2⟩:=(PCells.new w p 25).keep hb (by simp);have b1:Below w.heap.size w w1:=((Below.refl _ _).alloc (ZnR _) _).trans (hb.mono (by simp));clear hb;go_wp2
    go_ret
    first | exact ⟨Zz0z (HA.out.trans HC.out),b1⟩ | exact ⟨Zz0z ((Int.add_zero _).symm.trans (HA.out.trans HC.out)),b1⟩
 ·have h1':p.may=false:=by simpa using h1
  have hz:=hid (show countP p n=0 from Zz3n (fun h=>h1 h.1));go_enter Tryz.func31,Tryz.ntmps31;go_wp2_with fail;refine (Zz1n p false _ h1').mono ?_;rintro e w1 ⟨rfl,hb⟩;go_wp2
  go_ret
  exact ⟨Zz0z (hz.out.symm.trans HM.out),((Below.refl _ _).alloc (ZnR _) _).trans (hb.mono (by simp))⟩
end Go.Proofs.YtnknjeipfjdjoaaGreatDoor
