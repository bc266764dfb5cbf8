/- Pre RecMath Params -/
import Derived.BigGuardPart
import Derived.Test.YtnknjeipfjdjoaaGreatDoorBScanTells03
set_option maxHeartbeats 8000000
set_option maxRecDepth 20000
set_option linter.unusedSimpArgs false
set_option linter.unusedVariables false
namespace Wells
open Go Go.RowKit
structure Par where
 K:Int
 H:Int
 S:Int
def Par.val (p:Par):Value:= .agg #[.int .i64 p.K,.int .i64 p.H,.int .i64 p.S]
def Par.Ok (p:Par):Prop:=1≤p.K∧p.K≤16∧1≤p.H∧p.H≤4∧1≤p.S∧p.S≤24
def Par.may (p:Par):Bool:=decide (1≤p.K∧p.K≤16∧1≤p.H∧p.H≤4∧1≤p.S∧p.S≤24)
theorem Par.may_ok {p:Par} (h:p.may=true):p.Ok:=by unfold Par.may at h;unfold Par.Ok;exact of_decide_eq_true h
theorem Par.ok_may {p:Par} (h:p.Ok):p.may=true:=by unfold Par.Ok at h;unfold Par.may;exact decide_eq_true h
def Par.size (p:Par):Int:=p.K*p.S
theorem Par.size_le {p:Par} (h:p.Ok):1≤p.size∧p.size≤384:=by
 obtain ⟨h1,h2,_,_,h5,h6⟩:=h;unfold Par.size;constructor
 ·have:=Int.mul_le_mul h1 h5 (by omega) (by omega)
  omega
 ·have:=Int.mul_le_mul h2 h6 (by omega) (by omega)
  omega
def countP (p:Par) (n:Int):Int:=if p.may=true∧0 < n then (n - 1) / p.size+1 else 0
theorem Zz3n {p:Par} {n:Int} (h:¬ (p.may=true∧0 < n)):countP p n=0:=if_neg h
theorem Zzd8 {p:Par} {n:Int} (h:p.may=true) (hn:0 < n):countP p n=(n - 1) / p.size+1:=if_pos ⟨h,hn⟩
theorem Zz5i (p:Par) (n:Int):0≤countP p n∧(0≤n→countP p n≤n):=by
 unfold countP;split
 ·rename_i h
  have:=(Par.size_le (Par.may_ok h.1)).1
  have h1:0≤(n - 1) / p.size:=Int.ediv_nonneg (by omega) (by omega);have h2:(n - 1) / p.size≤n - 1:=Int.ediv_le_self _ (by omega);omega
 ·omega
def PCells (w:World) (g:Nat) (p:Par):Prop:=w.cell? ⟨g,0,none⟩=some (.int .i64 p.K)∧w.cell? ⟨g,1,none⟩=some (.int .i64 p.H)∧w.cell? ⟨g,2,none⟩=some (.int .i64 p.S)
theorem PCells.keep {w w':World} {g B:Nat} {p:Par} (h:PCells w g p) (hb:Below B w w') (hg:g < B):PCells w' g p:=
 ⟨(hb.cell (p:=⟨g,0,none⟩) hg).trans h.1,(hb.cell (p:=⟨g,1,none⟩) hg).trans h.2.1,(hb.cell (p:=⟨g,2,none⟩) hg).trans h.2.2⟩
theorem PCells.new (w:World) (p:Par) (t:TypeId):PCells (w.alloc (.cells #[.int .i64 p.K,.int .i64 p.H,.int .i64 p.S] t)) w.heap.size p:=
 ⟨World.cell?_alloc_at _ _ _ _ rfl,World.cell?_alloc_at _ _ _ _ rfl,World.cell?_alloc_at _ _ _ _ rfl⟩
theorem PCells.lt {w:World} {g:Nat} {p:Par} (h:PCells w g p):g < w.heap.size:=World.block_lt_of_cell? w _ h.1
end Wells
namespace Go.Proofs.YtnknjeipfjdjoaaGreatDoor
open Go.RowKit Wells
theorem Zz1m (p:Par) (r:Bool) (w:World) (hr:p.may=r):Calls Tryz.prog 82 #[p.val] w fun e w'=>e= .returned (.bool r)∧Below w.heap.size w w':=by
 obtain ⟨K,H,S⟩:=p;unfold Par.val;have HR:=hid hr;clear hr;go_enter Tryz.func82,Tryz.ntmps82;go_wp2
 all_goals (go_ret;exact ⟨Zz0a (by rw [← HR.out];unfold Par.may;dsimp only;first | (refine decide_eq_decide.2 ?_;omega) | (refine (decide_eq_false ?_).symm;omega)),(Below.refl _ _).alloc (ZnR _) _⟩)
theorem Zz1n (p:Par) (r:Bool) (w:World) (hr:p.may=r):Calls Tryz.prog 68 #[p.val] w fun e w'=>e= .returned (.bool r)∧Below w.heap.size w w':=by
 obtain ⟨K,H,S⟩:=p;unfold Par.val;have HR:=hid hr;clear hr;go_enter Tryz.func68,Tryz.ntmps68;go_wp2
 all_goals (go_ret;exact ⟨Zz0a (by rw [← HR.out];unfold Par.may;dsimp only;first | (refine decide_eq_decide.2 ?_;omega) | (refine (decide_eq_false ?_).symm;omega)),(Below.refl _ _).alloc (ZnR _) _⟩)
end Go.Proofs.YtnknjeipfjdjoaaGreatDoor
namespace Wells
open Go Go.RowKit
def hiB (x:Int) (i:Nat):Byte:=BitVec.ofNat 8 (x / 2 ^ (8*i) % 256).toNat
def highL:Nat→Int→BL
 | 0,_=> []
 | n+1,x=>hiB x n::highL n x
theorem Zz0r (n:Nat) (x:Int):(highL n x).length=n:=by
 induction n with
 | zero=>rfl
 | succ n ih=>simp [highL,ih]
def numL (l:BL):Int:=l.foldl (fun n b=>n*256+(b.toNat:Int)) 0
theorem Zz3e (l:BL) (b:Byte):numL (l++ [b])=numL l*256+(b.toNat:Int):=by simp [numL]
theorem Zza1 (l:BL) (n:Int) (h:0≤n):0≤l.foldl (fun n (b:Byte)=>n*256+(b.toNat:Int)) n∧l.foldl (fun n (b:Byte)=>n*256+(b.toNat:Int)) n < (n+1)*256 ^ l.length:=by
 induction l generalizing n with
 | nil=>simp;omega
 | cons b l ih=>
  have hb:=b.isLt;obtain ⟨h1,h2⟩:=ih (n*256+(b.toNat:Int)) (by omega);rw [List.foldl_cons,List.length_cons,Int.pow_succ,Int.mul_comm (256 ^ l.length) 256,← Int.mul_assoc];refine ⟨h1,Int.lt_of_lt_of_le h2 ?_⟩;exact Int.mul_le_mul_of_nonneg_right (by omega) (Int.pow_nonneg (by omega))
theorem Zz0w (l:BL):0≤numL l∧numL l < 256 ^ l.length:=by
 have:=Zza1 l 0 (by omega)
 simpa [numL] using this
theorem Zz0p (x:Int) (i:Nat):((hiB x i).toNat:Int)=x / 2 ^ (8*i) % 256:=by
 unfold hiB;rw [BitVec.toNat_ofNat];omega
theorem Zzbn (x:Int) (h:0≤x∧x < 256):numL (highL 1 x)=x:=by
 simp only [highL,numL,List.foldl,Zz0p];simp
 omega
theorem Zzcl (x:Int) (h:0≤x∧x < 65536):numL (highL 2 x)=x:=by
 simp only [highL,numL,List.foldl,Zz0p];simp
 omega
theorem Zzci (x:Int) (h:0≤x∧x < 16777216):numL (highL 3 x)=x:=by
 simp only [highL,numL,List.foldl,Zz0p];simp
 omega
theorem Zz6o (x:Int) (h:0≤x∧x < 4294967296):numL (highL 4 x)=x:=by
 simp only [highL,numL,List.foldl,Zz0p];simp
 omega
deriving instance DecidableEq for Par
structure Rec where
 O:Int
 B:Int
 I:Int
 P:Par
 S:BitVec 32
 D:BL
deriving DecidableEq
def Rec.zero:Rec:=⟨0,0,0,⟨0,0,0⟩,0, []⟩
def Rec.val (r:Rec) (d:Value):Value:= .agg #[.int .i64 r.O,.int .i64 r.B,.int .i64 r.I,.int .i64 r.P.K,.int .i64 r.P.H,.int .i64 r.P.S,.int .u32 (r.S.toNat:Int),d]
def Rec.may (r:Rec):Bool:=decide (0≤r.O∧r.O≤16777215∧0≤r.B∧r.B < 8∧0≤r.I∧r.I≤65535∧r.P.may=true∧(r.D.length:Int)=r.P.S)
def recB (r:Rec):BL:=highL 3 r.O++highL 1 r.B++highL 2 r.I++ [hiB r.P.K 0,hiB r.P.H 0,hiB r.P.S 0]++highL 4 (r.S.toNat:Int)++r.D
theorem Zz2w (r:Rec):(recB r).length=13+r.D.length:=by unfold recB;simp [Zz0r];omega
def putR (r:Rec):BL:=if r.may then cellL 1 (recB r) else []
def byteI (l:BL) (i:Nat):Int:=((l.getD i 0).toNat:Int)
def parseP (x:BL):Par:=⟨byteI x 6,byteI x 7,byteI x 8⟩
def parseR (x:BL):Rec:=⟨numL (x.take 3),numL ((x.drop 3).take 1),numL ((x.drop 4).take 2),parseP x,BitVec.ofNat 32 (numL ((x.drop 9).take 4)).toNat,(x.drop 13).take (byteI x 8).toNat⟩
def takeR (b:BL):Option Rec:=
 match takeP b with
 | none=>none
 | some (k,x)=>if k=1#8∧(parseP x).may=true∧putR (parseR x)=b then some (parseR x) else none
theorem Zz7q {r:Rec} (h:r.may=true):0≤r.O∧r.O≤16777215∧0≤r.B∧r.B < 8∧0≤r.I∧r.I≤65535∧r.P.may=true∧(r.D.length:Int)=r.P.S:=by
 unfold Rec.may at h;exact of_decide_eq_true h
theorem Zz7w {r:Rec} (h:r.may=true):putR r=cellL 1 (recB r):=if_pos h
theorem Zz2n {r:Rec} (h:r.may=true):(recB r).length≤55:=by
 obtain ⟨_,_,_,_,_,_,h7,h8⟩:=Zz7q h;have hp:=Par.may_ok h7;obtain ⟨p1,p2,p3,p4,p5,p6⟩:=hp;rw [Zz2w];omega
theorem Zzcn {r:Rec} (h:r.may=true):putR r=frame 1#8 (recB r):=by
 rw [Zz7w h,Zz29 ⟨by omega,by omega,Zz2n h⟩];rfl
theorem Zzh6 {r:Rec} (h:r.may=true):(putR r).length=64:=by rw [Zzcn h,Zz27 (Zz2n h)]
theorem Zzcu {b:BL} {r:Rec} (h:takeR b=some r):r.may=true∧putR r=b:=by
 unfold takeR at h;split at h
 ·cases h
 ·rename_i k x hk
  split at h
  ·rename_i hc
   injection h with h;subst h;refine ⟨?_,hc.2.2⟩;cases hm:(parseR x).may with
   | true=>rfl
   | false=>
    have:=hc.2.2
    unfold putR at this;rw [hm] at this;simp at this
    subst this;have:=(Zz24 hk).2.2
    have h2:=congrArg List.length this;rw [Zz27 (by have:=(Zz24 hk).2.1;omega)] at h2;cases h2
  ·cases h
def smallOf (a b c:Int):Par:=⟨1+a % 6,1+b % 3,1+c % 9⟩
end Wells
namespace Go.Proofs.YtnknjeipfjdjoaaGreatDoor
open Go.RowKit Wells
theorem Zzet (p:Par) (a b c:Int) (w:World) (ha: -9223372036854775808≤a∧a≤9223372036854775807) (hb: -9223372036854775808≤b∧b≤9223372036854775807) (hc: -9223372036854775808≤c∧c≤9223372036854775807) (hp:smallOf a b c=p):
  Calls Tryz.prog 29 #[.int .i64 a,.int .i64 b,.int .i64 c] w fun e w'=>e= .returned (.agg #[.int .i64 p.K,.int .i64 p.H,.int .i64 p.S])∧Below w.heap.size w w':=by
 subst hp;obtain ⟨x,hx⟩:∃ x,a % 6=x:=⟨_,rfl⟩;obtain ⟨y,hy⟩:∃ y,b % 3=y:=⟨_,rfl⟩;obtain ⟨z,hz⟩:∃ z,c % 9=z:=⟨_,rfl⟩;have h1:0≤x∧x≤5:=by omega
 have h2:0≤y∧y≤2:=by omega
 have h3:0≤z∧z≤8:=by omega
 obtain ⟨h1,h1'⟩:=h1;obtain ⟨h2,h2'⟩:=h2;obtain ⟨h3,h3'⟩:=h3;have HX:=hid hx;have HY:=hid hy;have HZ:=hid hz;clear hx hy hz;go_enter Tryz.func29,Tryz.ntmps29;go_wp2_with fail;refine (Zz07 a 6 _ ha.1 ha.2 (by omega) (by omega)).mono ?_;rintro e w1 ⟨rfl,rfl⟩;rw [HX.out];go_wp2_with fail;refine (Zz07 b 3 _ hb.1 hb.2 (by omega) (by omega)).mono ?_;rintro e w1 ⟨rfl,rfl⟩;rw [HY.out];go_wp2_with fail;refine (Zz07 c 9 _ hc.1 hc.2 (by omega) (by omega)).mono ?_;rintro e w1 ⟨rfl,rfl⟩;rw [HZ.out];go_wp2
 refine bodyPost_ret (v:= .agg #[.int .i64 (1+x),.int .i64 (1+y),.int .i64 (1+z)]) (by simp [results,Tryz.results29,go_sem]) rfl ⟨?_,(Below.refl _ _).alloc (ZnR _) _⟩;rw [← HX.out,← HY.out,← HZ.out];rfl
end Go.Proofs.YtnknjeipfjdjoaaGreatDoor
