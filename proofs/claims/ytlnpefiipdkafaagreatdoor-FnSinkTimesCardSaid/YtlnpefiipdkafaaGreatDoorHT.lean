/-
  The rounded quotients of both modes enclose the exact one.
-/
import Derived.Test.YtlnpefiipdkafaaGreatDoorGA
import Derived.Test.YtlnpefiipdkafaaGreatDoorGT
namespace Go.Proofs.YtlnpefiipdkafaaGreatDoor
theorem rdv_low {a b:Int} (hb:1≤b):rdv a b 0 * b≤a∧a<rdv a b 0 * b+b:=by
 have e:=tdiv_add a b
 have m:=@tmod_bd a b hb
 rw [Int.mul_comm] at e
 unfold rdv
 split
 ·rename_i h
  rw [Int.sub_mul,Int.one_mul]
  rcases Int.le_total 0 a with h0|h0
  ·have:=m.1 h0;omega
  ·have:=m.2 h0;omega
 ·rename_i h
  split
  ·omega
  ·rcases Int.le_total 0 a with h0|h0
   ·have:=m.1 h0;omega
   ·have:=m.2 h0;omega
theorem rdv_high {a b:Int} (hb:1≤b):a≤rdv a b 1 * b∧rdv a b 1 * b<a+b:=by
 have e:=tdiv_add a b
 have m:=@tmod_bd a b hb
 rw [Int.mul_comm] at e
 unfold rdv
 split
 ·omega
 ·split
  ·rw [Int.add_mul,Int.one_mul]
   rcases Int.le_total 0 a with h0|h0
   ·have:=m.1 h0;omega
   ·have:=m.2 h0;omega
  ·rcases Int.le_total 0 a with h0|h0
   ·have:=m.1 h0;omega
   ·have:=m.2 h0;omega
theorem rdv_diff (a b:Int):0≤rdv a b 1 - rdv a b 0∧rdv a b 1 - rdv a b 0≤1∧(rdv a b 0=rdv a b 1↔a.tmod b=0):=by
 unfold rdv
 (repeat' split)<;>omega
end Go.Proofs.YtlnpefiipdkafaaGreatDoor
/-
  Square roots and the slew behind a wire, in plain Lean.
-/
namespace Go.Proofs.YtlnpefiipdkafaaGreatDoor
def IsRt (n r:Int):Prop:=0≤r∧r * r≤n∧n<(r+1) * (r+1)
theorem sq_lt {a b:Int} (ha:0≤a) (hb:0≤b) (h:a * a<b * b):a<b:=by
 rcases Int.lt_or_le a b with h1|h1
 ·exact h1
 ·have h2:=Int.mul_le_mul_of_nonneg_right h1 hb
  have h3:=Int.mul_le_mul_of_nonneg_left h1 ha
  omega
theorem sq_le {a b:Int} (ha:0≤a) (h:a≤b):a * a≤b * b:=by
 have h2:=Int.mul_le_mul_of_nonneg_right h ha
 have h3:=Int.mul_le_mul_of_nonneg_left h (show 0≤b by omega)
 omega
theorem IsRt.uniq {n r s:Int} (h:IsRt n r) (k:IsRt n s):r=s:=by
 have h1:=sq_lt h.1 (show 0≤s+1 by have:=k.1;omega) (Int.lt_of_le_of_lt h.2.1 k.2.2)
 have h2:=sq_lt k.1 (show 0≤r+1 by have:=h.1;omega) (Int.lt_of_le_of_lt k.2.1 h.2.2)
 omega
theorem rdv0 {a b:Int} (hb:1≤b) {q:Int} (h1:q * b≤a) (h2:a<q * b+b):rdv a b 0=q:=by
 obtain ⟨l1,l2⟩:=@rdv_low a b hb
 have e1:(rdv a b 0+1) * b=rdv a b 0 * b+b:=by rw [Int.add_mul,Int.one_mul]
 have e2:(q+1) * b=q * b+b:=by rw [Int.add_mul,Int.one_mul]
 have x1:q * b<(rdv a b 0+1) * b:=by omega
 have x2:rdv a b 0 * b<(q+1) * b:=by omega
 have:=Int.lt_of_mul_lt_mul_right x1 (by omega)
 have:=Int.lt_of_mul_lt_mul_right x2 (by omega)
 omega
theorem rdv1 {a b:Int} (hb:1≤b) {q:Int} (h1:a≤q * b) (h2:q * b<a+b):rdv a b 1=q:=by
 obtain ⟨l1,l2⟩:=@rdv_high a b hb
 have e1:(rdv a b 1+1) * b=rdv a b 1 * b+b:=by rw [Int.add_mul,Int.one_mul]
 have e2:(q+1) * b=q * b+b:=by rw [Int.add_mul,Int.one_mul]
 have x1:q * b<(rdv a b 1+1) * b:=by omega
 have x2:rdv a b 1 * b<(q+1) * b:=by omega
 have:=Int.lt_of_mul_lt_mul_right x1 (by omega)
 have:=Int.lt_of_mul_lt_mul_right x2 (by omega)
 omega
/-- the square under both roots: 250000 slews and the delay -/
def slewX (s d:Int):Int:=250000 * (s * s)+d * d
def SlewP (s d m r:Int):Prop:=∃b:Int,IsRt (slewX s d) b∧r=if m=1∧b * b<slewX s d then b / 500+1 else rdv b 500 m
theorem SlewP.uniq {s d m r r':Int} (h:SlewP s d m r) (k:SlewP s d m r'):r=r':=by
 obtain ⟨b,hb,rfl⟩:=h
 obtain ⟨c,hc,rfl⟩:=k
 rw [hb.uniq hc]
/-- the quotients of both roots -/
theorem roots_q {X a b:Int} (ha:IsRt (4 * X) a) (hb:IsRt X b):a / 1000=b / 500:=by
 obtain ⟨q,hq⟩:∃q,q=b / 500:=⟨_,rfl⟩
 have q0:0≤q:=by have:=hb.1;omega
 have h1:500 * q≤b:=by omega
 have h2:b+1≤500 * (q+1):=by omega
 have s1:=sq_le (show 0≤500 * q by omega) h1
 have s2:=sq_le (show 0≤b+1 by have:=hb.1;omega) h2
 have e1:1000 * q * (1000 * q)=4 * (500 * q * (500 * q)):=by grind
 have e2:1000 * (q+1) * (1000 * (q+1))=4 * (500 * (q+1) * (500 * (q+1))):=by grind
 have x1:1000 * q<a+1:=sq_lt (by omega) (by have:=ha.1;omega) (by have:=hb.2.1;have:=ha.2.2;omega)
 have x2:a<1000 * (q+1):=sq_lt ha.1 (by omega) (by have:=hb.2.2;have:=ha.2.1;omega)
 omega
/-- the reference's slew is the program's -/
theorem slew_spec {s d m a:Int} (hm:m=0∨m=1) (ha:IsRt (4 * slewX s d) a) (hx:∃b,IsRt (slewX s d) b):SlewP s d m (rdv (if m=1∧a * a<4 * slewX s d then a+1 else a) 1000 m):=by
 obtain ⟨b,hb⟩:=hx
 refine ⟨b,hb,?_⟩
 have hq:=roots_q ha hb
 have a0:=ha.1
 have b0:=hb.1
 rcases hm with rfl|rfl
 ·rw [if_neg (fun h=>by have:=h.1;omega),if_neg (fun h=>by have:=h.1;omega)]
  rw [rdv0 (q:=a / 1000) (by omega) (by omega) (by omega),rdv0 (q:=b / 500) (by omega) (by omega) (by omega)]
  exact hq
 ·by_cases he:b * b<slewX s d
  ·have ne:a * a<4 * slewX s d:=by
    rcases Int.lt_or_eq_of_le ha.2.1 with h|h
    ·exact h
    ·exfalso
     obtain ⟨c,hc⟩:∃c,a=2 * c∨a=2 * c+1:=⟨a / 2,by omega⟩
     rcases hc with hc|hc
     ·have e:a * a=4 * (c * c):=by rw [hc];grind
      have hcX:c * c=slewX s d:=by omega
      have x1:c<b+1:=sq_lt (by omega) (by omega) (by have:=hb.2.2;omega)
      have x2:=sq_le (show 0≤c by omega) (show c≤b by omega)
      omega
     ·have e:a * a=4 * (c * c)+4 * c+1:=by rw [hc];grind
      omega
   rw [if_pos ⟨rfl,ne⟩,if_pos ⟨rfl,he⟩]
   rw [rdv1 (q:=a / 1000+1) (by omega) (by omega) (by omega),hq]
  ·have hbX:b * b=slewX s d:=by have:=hb.2.1;omega
   have hab:a=2 * b:=by
    have e:2 * b * (2 * b)=4 * (b * b):=by grind
    have x1:2 * b<a+1:=sq_lt (by omega) (by omega) (by have:=ha.2.2;omega)
    have x2:a<2 * b+1:=by
     have e2:(2 * b+1) * (2 * b+1)=4 * (b * b)+4 * b+1:=by grind
     exact sq_lt a0 (by omega) (by have:=ha.2.1;omega)
    omega
   have e:a * a=4 * slewX s d:=by rw [hab,←hbX];grind
   rw [if_neg (fun h=>by have:=h.2;omega),if_neg (fun h=>he h.2),hab]
   obtain ⟨r1,r2⟩:=@rdv_high b 500 (by omega)
   exact rdv1 (by omega) (by omega) (by omega)
end Go.Proofs.YtlnpefiipdkafaaGreatDoor
/-
  Roots and the slew behind a wire: contracts.
-/
namespace Go.Proofs.YtlnpefiipdkafaaGreatDoor
open Go.RowKit
def upR (n a m:Int):Int:=if m=1∧a * a<n then a+1 else a
theorem rt_ex:∀n:Nat,∃b,IsRt (n:Int) b
 | 0=>⟨0,by unfold IsRt;omega⟩
 | n+1=>by
  obtain ⟨b,h0,h1,h2⟩:=rt_ex n
  by_cases h:(b+1) * (b+1)≤((n+1:Nat):Int)
  ·have e:(b+1+1) * (b+1+1)=(b+1) * (b+1)+2 * (b+1)+1:=by grind
   exact ⟨b+1,by omega,h,by omega⟩
  ·exact ⟨b,h0,by omega,by omega⟩
theorem slewX_bd {s d:Int} (h1:0≤s) (h2:s≤1000000) (h3:0≤d) (h4:d≤301000000):(0≤s * s∧s * s≤1000000000000)∧(0≤d * d∧d * d≤90601000000000000):=by
 have a1:=sq_le h1 h2
 have a2:=Int.mul_nonneg h1 h1
 have a3:=sq_le h3 h4
 have a4:=Int.mul_nonneg h3 h3
 omega
set_option maxHeartbeats 2000000 in
theorem l07Root_any (n m:Int) (w:World) (h0:0≤n) (h1:n≤2000000000000000000) :
  Calls Tryz.prog 101 #[.int .i64 n,.int .i64 m] w fun e w'=>(∃a:Int,IsRt n a∧a≤2000000000∧e=.returned (.int .i64 (upR n a m)))∧w=w':=by
 go_enter Tryz.func101,Tryz.ntmps101
 go_wp2
 go_loopw [5,6] (fun l h wr=>∃lo hi:Int,l=.int .i64 lo∧h=.int .i64 hi∧(0≤lo∧lo≤hi∧hi≤2000000000)∧lo * lo≤n∧n<(hi+1) * (hi+1)∧w=wr) (fun l h _=>(intOf h - intOf l).toNat)
 case atStart=>exact ⟨0,2000000000,rfl,rfl,by omega,by omega,by omega,rfl⟩
 case round =>
  obtain ⟨lo,hi,rfl,rfl,hb,h2,h3,rfl⟩:=hrel
  by_cases hlt:lo<hi
  ·obtain ⟨mid,hm⟩:∃mid,mid=(lo+hi+1).tdiv 2:=⟨_,rfl⟩
   have hm2:mid=(lo+hi+1) / 2:=by rw [hm,Int.tdiv_eq_ediv_of_nonneg (by omega)]
   have b1:lo<mid:=by omega
   have b2:mid≤hi:=by omega
   have sq1:=sq_le (show 0≤mid by omega) (show mid≤2000000000 by omega)
   have sq0:=Int.mul_nonneg (show 0≤mid by omega) (show 0≤mid by omega)
   have wr1:IntKind.i64.wrap (lo+hi)=lo+hi:=IntWalk.i64_in _ (by omega)
   have wr2:IntKind.i64.wrap (lo+hi+1)=lo+hi+1:=IntWalk.i64_in _ (by omega)
   have wr3:IntKind.i64.wrap ((lo+hi+1).tdiv 2)=mid:=by rw [←hm];exact IntWalk.i64_in _ (by omega)
   have wr4:IntKind.i64.wrap (mid * mid)=mid * mid:=IntWalk.i64_in _ (by omega)
   have wr5:IntKind.i64.wrap (mid - 1)=mid - 1:=IntWalk.i64_in _ (by omega)
   clear hm hm2
   by_cases hle:mid * mid≤n
   ·go_wp2
    go_roundw
    case rel=>exact ⟨mid,hi,rfl,rfl,by omega,hle,h3,trivial⟩
    case measure=>simp [intOf];omega
   ·go_wp2
    go_roundw
    case rel=>exact ⟨lo,mid - 1,rfl,rfl,by omega,h2,by rw [Int.sub_add_cancel];omega,trivial⟩
    case measure=>simp [intOf];omega
  ·obtain rfl:lo=hi:=by omega
   have R:=hideIt (show IsRt n lo from ⟨hb.1,h2,h3⟩)
   have LE:=hideIt hb.2.2
   have sq1:=sq_le (show 0≤lo by omega) (show lo≤2000000000 by omega)
   have sq0:=Int.mul_nonneg (show 0≤lo by omega) (show 0≤lo by omega)
   have wr4:IntKind.i64.wrap (lo * lo)=lo * lo:=IntWalk.i64_in _ (by omega)
   have wr5:IntKind.i64.wrap (lo+1)=lo+1:=IntWalk.i64_in _ (by omega)
   clear sq0 sq1 h3
   by_cases h4:(m==1)=true
   ·have h5:=hideIt (eq_of_beq h4)
    by_cases h6:lo * lo<n
    ·go_wp2
     go_ret
     exact ⟨⟨lo,R.out,LE.out,ret_int (show lo+1=upR n lo m by unfold upR;rw [if_pos ⟨h5.out,h6⟩])⟩,rfl⟩
    ·go_wp2
     go_ret
     exact ⟨⟨lo,R.out,LE.out,ret_int (show lo=upR n lo m by unfold upR;rw [if_neg (fun h=>by have:=h.2;omega)])⟩,rfl⟩
   ·have h5:(m==1)=false:=by simpa using h4
    have h6:=hideIt (show ¬m=1 by simpa using h5)
    clear h4
    go_wp2
    go_ret
    exact ⟨⟨lo,R.out,LE.out,ret_int (show lo=upR n lo m by unfold upR;rw [if_neg (fun h=>h6.out h.1)])⟩,rfl⟩
set_option maxHeartbeats 2000000 in
theorem root_any (n:Int) (w:World) (h0:0≤n) (h1:n≤2000000000000000000) :
  Calls Tryz.prog 98 #[.int .i64 n] w fun e w'=>(∃a:Int,IsRt n a∧a≤3000000000∧e=.returned (.int .i64 (a)))∧w=w':=by
 go_enter Tryz.func98,Tryz.ntmps98
 go_wp2
 go_loopw [3,4] (fun l h wr=>∃lo hi:Int,l=.int .i64 lo∧h=.int .i64 hi∧(0≤lo∧lo≤hi∧hi≤3000000000)∧lo * lo≤n∧n<(hi+1) * (hi+1)∧w=wr) (fun l h _=>(intOf h - intOf l).toNat)
 case atStart=>exact ⟨0,3000000000,rfl,rfl,by omega,by omega,by omega,rfl⟩
 case round =>
  obtain ⟨lo,hi,rfl,rfl,hb,h2,h3,rfl⟩:=hrel
  by_cases hlt:lo<hi
  ·obtain ⟨mid,hm⟩:∃mid,mid=(lo+hi+1).tdiv 2:=⟨_,rfl⟩
   have hm2:mid=(lo+hi+1) / 2:=by rw [hm,Int.tdiv_eq_ediv_of_nonneg (by omega)]
   have b1:lo<mid:=by omega
   have b2:mid≤hi:=by omega
   have sq1:=sq_le (show 0≤mid by omega) (show mid≤3000000000 by omega)
   have sq0:=Int.mul_nonneg (show 0≤mid by omega) (show 0≤mid by omega)
   have wr1:IntKind.i64.wrap (lo+hi)=lo+hi:=IntWalk.i64_in _ (by omega)
   have wr2:IntKind.i64.wrap (lo+hi+1)=lo+hi+1:=IntWalk.i64_in _ (by omega)
   have wr3:IntKind.i64.wrap ((lo+hi+1).tdiv 2)=mid:=by rw [←hm];exact IntWalk.i64_in _ (by omega)
   have wr4:IntKind.i64.wrap (mid * mid)=mid * mid:=IntWalk.i64_in _ (by omega)
   have wr5:IntKind.i64.wrap (mid - 1)=mid - 1:=IntWalk.i64_in _ (by omega)
   clear hm hm2
   by_cases hle:mid * mid≤n
   ·go_wp2
    go_roundw
    case rel=>exact ⟨mid,hi,rfl,rfl,by omega,hle,h3,trivial⟩
    case measure=>simp [intOf];omega
   ·go_wp2
    go_roundw
    case rel=>exact ⟨lo,mid - 1,rfl,rfl,by omega,h2,by rw [Int.sub_add_cancel];omega,trivial⟩
    case measure=>simp [intOf];omega
  ·obtain rfl:lo=hi:=by omega
   have R:=hideIt (show IsRt n lo from ⟨hb.1,h2,h3⟩)
   have LE:=hideIt hb.2.2
   go_wp2
   go_ret
   exact ⟨⟨lo,R.out,LE.out,rfl⟩,rfl⟩
set_option maxHeartbeats 2000000 in
theorem wireSlew_any (s d m:Int) (w:World) (h1:0≤s) (h2:s≤1000000) (h3:0≤d) (h4:d≤301000000) :
  Calls Tryz.prog 72 #[.int .i64 s,.int .i64 d,.int .i64 m] w fun e w'=>(∃r:Int,SlewP s d m r∧e=.returned (.int .i64 r))∧∃n,w.drewN n=w':=by
 obtain ⟨⟨a1,a2⟩,a3,a4⟩:=slewX_bd h1 h2 h3 h4
 have e1:500 * s * 500=250000 * s:=by omega
 have e2:250000 * s * s=250000 * (s * s):=by rw [Int.mul_assoc]
 have wr1:IntKind.i64.wrap (500 * s)=500 * s:=IntWalk.i64_in _ (by omega)
 have wr2:IntKind.i64.wrap (500 * s * 500)=250000 * s:=by rw [e1];exact IntWalk.i64_in _ (by omega)
 have wr3:IntKind.i64.wrap (250000 * s * s)=250000 * (s * s):=by rw [e2];exact IntWalk.i64_in _ (by omega)
 have wr4:IntKind.i64.wrap (d * d)=d * d:=IntWalk.i64_in _ (by omega)
 obtain ⟨X,hX⟩:∃X,X=250000 * (s * s)+d * d:=⟨_,rfl⟩
 have wr5:IntKind.i64.wrap (250000 * (s * s)+d * d)=X:=by rw [←hX];exact IntWalk.i64_in _ (by omega)
 have x1:0≤X:=by omega
 have x2:X≤2000000000000000000:=by omega
 have EX:=hideIt (show X=slewX s d from hX)
 clear e1 e2 hX a1 a2 a3 a4
 go_enter Tryz.func72,Tryz.ntmps72
 go_wp2_with fail
 refine (root_any X _ x1 x2).mono ?_
 rintro e w1 ⟨⟨a,ha,hle,rfl⟩,rfl⟩
 have R:=hideIt ha
 have a0:=ha.1
 have a5:=sq_le a0 hle
 have a6:=Int.mul_nonneg a0 a0
 have q0:a.tdiv 500=a / 500:=Int.tdiv_eq_ediv_of_nonneg a0
 have wr6:IntKind.i64.wrap (a * a)=a * a:=IntWalk.i64_in _ (by omega)
 have wr7:IntKind.i64.wrap (a.tdiv 500)=a / 500:=by rw [q0];exact IntWalk.i64_in _ (by omega)
 have wr8:IntKind.i64.wrap (a / 500+1)=a / 500+1:=IntWalk.i64_in _ (by omega)
 clear a5 a6 q0 ha
 by_cases h5:(m==1)=true
 ·have h6:=hideIt (eq_of_beq h5)
  by_cases h7:a * a<X
  ·go_wp2
   go_ret
   exact ⟨⟨_,⟨a,by rw [←EX.out];exact R.out,by rw [if_pos ⟨h6.out,by rw [←EX.out];exact h7⟩]⟩,rfl⟩,0,rfl⟩
  ·go_wp2_with (go_at_call 76;refine (divide_any _ _ _ _ (by omega) (by omega) (by omega)).mono ?_;rintro e w' ⟨rfl,n1,rfl⟩)
   go_ret
   exact ⟨⟨_,⟨a,by rw [←EX.out];exact R.out,by rw [if_neg (fun h=>by have h8:=h.2;rw [←EX.out] at h8;omega)]⟩,rfl⟩,n1,rfl⟩
 ·have h6:(m==1)=false:=by simpa using h5
  have h7:=hideIt (show ¬m=1 by simpa using h6)
  clear h5
  go_wp2_with (go_at_call 76;refine (divide_any _ _ _ _ (by omega) (by omega) (by omega)).mono ?_;rintro e w' ⟨rfl,n1,rfl⟩)
  go_ret
  exact ⟨⟨_,⟨a,by rw [←EX.out];exact R.out,by rw [if_neg (fun h=>h7.out h.1)]⟩,rfl⟩,n1,rfl⟩
/-- the slew, as a value -/
noncomputable def slewR (s d m:Int):Int:=open Classical in if h:∃r,SlewP s d m r then h.choose else 0
theorem slewR_eq {s d m r:Int} (h:SlewP s d m r):r=slewR s d m:=by
 unfold slewR
 rw [dif_pos ⟨r,h⟩]
 exact h.uniq (Exists.choose_spec (⟨r,h⟩:∃r,SlewP s d m r))
end Go.Proofs.YtlnpefiipdkafaaGreatDoor
/-
  Contracts of RoundDiv and ScaleTime, the reference's and the program's.
-/
namespace Go.Proofs.YtlnpefiipdkafaaGreatDoor
open Go.RowKit

def roundV (a b m:Int):Int×Int :=
 if inB a (-1000000000000000) 1000000000000000=true∧inB b 1 1000000000000000=true∧isM m=true then (rdv a b m,0) else (0,2)
def scaleV (t k m:Int):Int×Int :=
 if inB t (-1000000000) 1000000000=true∧inB k 0 10000=true∧isM m=true then (rdv (t * k) 1000 m,0) else (0,2)

set_option maxHeartbeats 400000 in
theorem iRoundDiv_any (a b m:Int) (w:World) :
  Calls Tryz.prog 34 #[.int .i64 a,.int .i64 b,.int .i64 m] w fun e w'=>e=.returned (.tuple #[.int .i64 (roundV a b m).1,.int .i64 (roundV a b m).2])∧∃n,w.drewN n=w':=by
 cases h1:inB a (-1000000000000000) 1000000000000000<;>cases h2:inB b 1 1000000000000000<;>cases h3:isM m
 all_goals
  have E:Hid (roundV a b m=if inB a (-1000000000000000) 1000000000000000=true∧inB b 1 1000000000000000=true∧isM m=true then (rdv a b m,0) else (0,2)):=rfl
  have B1:Hid (inB a (-1000000000000000) 1000000000000000=true→-1000000000000000≤a∧a≤1000000000000000):=inB_true
  have B2:Hid (inB b 1 1000000000000000=true→1≤b∧b≤1000000000000000):=inB_true
  go_enter Tryz.func34,Tryz.ntmps34
  go_wp2_with (first|(go_at_call 69;refine (within_any _ _ _ _).mono ?_;rintro e w' ⟨rfl,rfl⟩)|(go_at_call 71;refine (isMode_any _ _).mono ?_;rintro e w' ⟨rfl,rfl⟩)|(go_at_call 76;refine (divide_any _ _ _ _ (by have:=B2.out h2;omega) (by have:=B1.out h1;omega) (by have:=B1.out h1;omega)).mono ?_;rintro e w' ⟨rfl,nd,rfl⟩))
  go_ret2
  exact ⟨by rw [E.out];simp [h1,h2,h3],by first|exact ⟨0,rfl⟩|exact ⟨_,rfl⟩⟩
theorem mul_bd {t k:Int} (h:-1000000000≤t∧t≤1000000000) (h2:0≤k∧k≤10000):-10000000000000≤t * k∧t * k≤10000000000000:=by
 constructor
 ·have:=Int.mul_le_mul_of_nonneg_right h.1 h2.1
  have:=Int.mul_le_mul_of_nonneg_left h2.2 (show (0:Int)≤1000000000 by omega)
  omega
 ·have:=Int.mul_le_mul_of_nonneg_right h.2 h2.1
  have:=Int.mul_le_mul_of_nonneg_left h2.2 (show (0:Int)≤1000000000 by omega)
  omega
end Go.Proofs.YtlnpefiipdkafaaGreatDoor
/-
  The slew at a sink of a net of a block, in plain Lean.
-/
namespace Go.Proofs.YtlnpefiipdkafaaGreatDoor
open Go.RowKit
def dlyV (cs:List CellD) (d:DesignD) (x:WireD) (n:Int) (s:Nat):Int:=(delaysL cs d x n).getD (x.sink.getD s 0).toNat 0
theorem delaysL_len {cs:List CellD} {d:DesignD} {x:WireD} {n:Int} (h:1≤x.cap.length):(delaysL cs d x n).length=x.cap.length:=by
 unfold delaysL
 rw [dlS_len]
 omega
theorem dlyV_bd {cs:List CellD} {d:DesignD} (hd:DesP cs d) {n:Int} {x:WireD} (h:WireOk x (sinksL d n).length) (s:Nat):0≤dlyV cs d x n s∧dlyV cs d x n s≤301000000:=by
 have hc:=h.cap
 have h8:=h.n8
 exact delay_bd hd h (by omega) _
theorem isM_01 {m:Int} (h:isM m=true):m=0∨m=1:=by
 unfold isM at h
 simpa using h
def tests (x:WireD) (s sl m:Int):Bool:=inB s 0 ((x.sink.length:Int) - 1)&&(inB sl 0 1000000&&isM m)
noncomputable def slewCode (cs:List CellD) (d:DesignD) (ws:List WireD) (n s sl m:Int):Int :=
 if codeV cs d ws n=0 then (match ws[n.toNat]? with|some x=>if tests x s sl m=true then 0 else 2|none=>2) else codeV cs d ws n
noncomputable def slewVal (cs:List CellD) (d:DesignD) (ws:List WireD) (n s sl m:Int):Int :=
 if codeV cs d ws n=0 then (match ws[n.toNat]? with|some x=>if tests x s sl m=true then slewR sl (dlyV cs d x n s.toNat) m else 0|none=>0) else 0
section
variable {cs:List CellD} {d:DesignD} {ws:List WireD} {n s sl m:Int} {k:Nat} {x:WireD}
theorem slew_no (h:¬codeV cs d ws n=0):slewVal cs d ws n s sl m=0∧slewCode cs d ws n s sl m=codeV cs d ws n:=by
 unfold slewVal slewCode
 rw [if_neg h,if_neg h]
 exact ⟨rfl,rfl⟩
theorem slew_out (h:codeV cs d ws (k:Int)=0) (hx:ws[k]?=some x) (ht:tests x s sl m=false):slewVal cs d ws (k:Int) s sl m=0∧slewCode cs d ws (k:Int) s sl m=2:=by
 unfold slewVal slewCode
 rw [if_pos h,if_pos h,Int.toNat_natCast,hx]
 simp [ht]
theorem slew_in (h:codeV cs d ws (k:Int)=0) (hx:ws[k]?=some x) (ht:tests x s sl m=true):slewVal cs d ws (k:Int) s sl m=slewR sl (dlyV cs d x (k:Int) s.toNat) m∧slewCode cs d ws (k:Int) s sl m=0:=by
 unfold slewVal slewCode
 rw [if_pos h,if_pos h,Int.toNat_natCast,hx]
 simp [ht]
end
end Go.Proofs.YtlnpefiipdkafaaGreatDoor
/-
  A slew behind a wire: not below the one ahead of it, and the root that it is, in plain Lean.
-/
namespace Go.Proofs.YtlnpefiipdkafaaGreatDoor
open Go.RowKit
def exS (s d:Int):Int:=1000000 * s * s+4 * d * d
structure SlewLaw (s d m r:Int):Prop where
 ge:s≤r
 bd:0≤r∧r≤1200001
 early:m=0→1000000 * r * r≤exS s d∧exS s d<1000000 * (r+1) * (r+1)
 late:m=1→exS s d≤1000000 * r * r∧(r=0∨1000000 * (r - 1) * (r - 1)<exS s d)
theorem exS_eq (s d:Int):exS s d=4 * slewX s d:=by unfold exS slewX;grind
theorem sq500 (q:Int):1000000 * q * q=4 * (500 * q * (500 * q)):=by grind
theorem slew_law {s d m r:Int} (hs:0≤s∧s≤1000000) (hd:0≤d∧d≤301000000) (hm:m=0∨m=1) (h:SlewP s d m r):SlewLaw s d m r:=by
 obtain ⟨b,⟨b0,b1,b2⟩,hr⟩:=h
 have hX:=slewX_bd hs.1 hs.2 hd.1 hd.2
 have hXb:250000 * (s * s)≤slewX s d∧slewX s d≤350000000000000000:=by unfold slewX;omega
 have hsb:500 * s≤b:=by
  have e:500 * s * (500 * s)=250000 * (s * s):=by grind
  have:=sq_lt (show 0≤500 * s by omega) (show 0≤b+1 by omega) (by omega)
  omega
 have hbb:b<600000000:=sq_lt b0 (by omega) (by omega)
 have key:∀q:Int,0≤q→500 * q≤b→1000000 * q * q≤4 * (b * b):=fun q h0 h1=>by
  have:=sq_le (show 0≤500 * q by omega) h1
  rw [sq500]
  omega
 have kup:∀q:Int,b+1≤500 * q→exS s d<1000000 * q * q:=fun q h1=>by
  have:=sq_le (show 0≤b+1 by omega) h1
  rw [sq500,exS_eq]
  omega
 rcases hm with rfl|rfl
 ·rw [if_neg (fun h=>by have:=h.1;omega),rdv0 (q:=b / 500) (by omega) (by omega) (by omega)] at hr
  refine ⟨by omega,by omega,fun _=>⟨?_,kup _ (by omega)⟩,fun h=>by omega⟩
  have:=key r (by omega) (by omega)
  rw [exS_eq]
  omega
 ·by_cases he:b * b<slewX s d
  ·rw [if_pos ⟨rfl,he⟩] at hr
   refine ⟨by omega,by omega,fun h=>by omega,fun _=>⟨Int.le_of_lt (kup r (by omega)),.inr ?_⟩⟩
   have:=key (r - 1) (by omega) (by omega)
   rw [exS_eq]
   omega
  ·have hbX:b * b=slewX s d:=by omega
   rw [if_neg (fun h=>he h.2)] at hr
   obtain ⟨r1,r2⟩:=@rdv_high b 500 (by omega)
   rw [←hr] at r1 r2
   refine ⟨by omega,by omega,fun h=>by omega,fun _=>⟨?_,?_⟩⟩
   ·have:=sq_le b0 (show b≤500 * r by omega)
    rw [sq500,exS_eq]
    omega
   ·by_cases h0:r=0
    ·exact .inl h0
    ·right
     have hr1:1≤r:=by omega
     have h1:500 * (r - 1)<b:=by omega
     have h3:=Int.mul_lt_mul_of_pos_right h1 (show 0<b by omega)
     have h4:=Int.mul_le_mul_of_nonneg_left (Int.le_of_lt h1) (show 0≤500 * (r - 1) by omega)
     rw [sq500,exS_eq]
     omega
theorem slewR_law {s d m:Int} (hs:0≤s∧s≤1000000) (hd:0≤d∧d≤301000000) (hm:m=0∨m=1):SlewLaw s d m (slewR s d m):=by
 have hX:=slewX_bd hs.1 hs.2 hd.1 hd.2
 obtain ⟨b,hb⟩:=rt_ex (slewX s d).toNat
 have e:((slewX s d).toNat:Int)=slewX s d:=Int.toNat_of_nonneg (by unfold slewX;omega)
 rw [e] at hb
 have hP:SlewP s d m (if m=1∧b * b<slewX s d then b / 500+1 else rdv b 500 m):=⟨b,hb,rfl⟩
 rw [←slewR_eq hP]
 exact slew_law hs hd hm hP
section
variable {cs:List CellD} {d:DesignD} {ws:List WireD} {n s sl m:Int}
theorem slew_zero (h:¬slewCode cs d ws n s sl m=0):slewVal cs d ws n s sl m=0:=by
 by_cases hc:codeV cs d ws n=0
 ·obtain ⟨-,k,rfl,hk⟩:=codeV_0 hc
  have hx:=List.getElem?_eq_getElem hk
  cases ht:tests ws[k] s sl m with
  | false=>exact (slew_out hc hx ht).1
  | true=>exact absurd (slew_in hc hx ht).2 h
 ·exact (slew_no hc).1
theorem slew_ok (h:slewCode cs d ws n s sl m=0):∃(k:Nat) (x:WireD) (j:Nat),n=(k:Int)∧codeV cs d ws (k:Int)=0∧ws[k]?=some x∧s=(j:Int)∧j<x.sink.length∧(0≤sl∧sl≤1000000)∧isM m=true∧slewVal cs d ws (k:Int) s sl m=slewR sl (dlyV cs d x (k:Int) j) m:=by
 by_cases hc:codeV cs d ws n=0
 ·obtain ⟨-,k,rfl,hk⟩:=codeV_0 hc
  have hx:=List.getElem?_eq_getElem hk
  cases ht:tests ws[k] s sl m with
  | false=>have:=(slew_out hc hx ht).2;omega
  | true =>
   have hv:=(slew_in hc hx ht).1
   have ht2:=ht
   unfold tests at ht
   simp only [Bool.and_eq_true] at ht
   obtain ⟨h1,h2,h3⟩:=ht
   have h1:=inB_true h1
   have h2:=inB_true h2
   refine ⟨k,ws[k],s.toNat,rfl,hc,hx,by omega,by omega,by omega,h3,hv⟩
 ·exact absurd ((slew_no (s:=s) (sl:=sl) (m:=m) hc).2.symm.trans h) hc
end
theorem round_in {a m:Int} (ha:0≤a∧a≤301000000) (hm:isM m=true):roundV a 1000 m=(rdv a 1000 m,0):=by
 unfold roundV
 rw [if_pos ⟨by unfold inB;simp;omega,by decide,hm⟩]
theorem dly_node {cs:List CellD} {d:DesignD} {x:WireD} {n:Int} {i:Nat} {z:Int} (h:x.sink[i]?=some z):dlyV cs d x n i=(delaysL cs d x n).getD z.toNat 0:=by
 unfold dlyV
 rw [List.getD_eq_getElem?_getD (l:=x.sink),h]
 rfl
end Go.Proofs.YtlnpefiipdkafaaGreatDoor
