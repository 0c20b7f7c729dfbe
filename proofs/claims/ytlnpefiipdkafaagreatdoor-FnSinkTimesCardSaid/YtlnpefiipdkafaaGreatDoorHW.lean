/-
  The value of a gate, in plain Lean.
-/
import Derived.Test.YtlnpefiipdkafaaGreatDoorGI
import Derived.Test.YtlnpefiipdkafaaGreatDoorGA
import Derived.Test.YtlnpefiipdkafaaGreatDoorGB
namespace Go.Proofs.YtlnpefiipdkafaaGreatDoor
open Go.RowKit
/-- the row of the truth table that the first k inputs name -/
def gN (xs:List Int):Nat→Nat
 | 0=>0
 | k+1=>gN xs k+(xs.getD k 0).toNat * 2 ^ k
theorem gN_succ {xs:List Int} {k:Nat} {v:Int} (h:xs[k]?=some v):gN xs (k+1)=gN xs k+v.toNat * 2 ^ k:=by
 show gN xs k+(xs.getD k 0).toNat * 2 ^ k=_
 rw [List.getD_eq_getElem?_getD,h];rfl
theorem gN_lt {xs:List Int} (h:wiB xs 0 1=true):∀{k:Nat},k≤xs.length→gN xs k<2 ^ k
 | 0,_=>Nat.one_pos
 | k+1,hk=>by
  have ih:=gN_lt h (k:=k) (by omega)
  obtain ⟨v,hv⟩:∃v,xs[k]?=some v:=⟨_,List.getElem?_eq_getElem (by omega)⟩
  rw [gN_succ hv]
  have hb:=inB_true (List.all_eq_true.1 h v (List.mem_of_getElem? hv))
  have:v.toNat≤1:=by omega
  have h2:v.toNat * 2 ^ k≤1 * 2 ^ k:=Nat.mul_le_mul_right _ this
  rw [Nat.pow_succ]
  omega
theorem gN_lt' {xs:List Int} {k:Nat} (h:∀(j:Nat) (v:Int),j<k→xs[j]?=some v→inB v 0 1=true):∀{m:Nat},m≤k→m≤xs.length→gN xs m<2 ^ m
 | 0,_,_=>Nat.one_pos
 | m+1,hm,hl=>by
  have ih:=gN_lt' h (m:=m) (by omega) (by omega)
  obtain ⟨v,hv⟩:∃v,xs[m]?=some v:=⟨_,List.getElem?_eq_getElem (by omega)⟩
  rw [gN_succ hv]
  have hb:=inB_true (h m v (by omega) hv)
  have:v.toNat≤1:=by omega
  have h2:v.toNat * 2 ^ m≤1 * 2 ^ m:=Nat.mul_le_mul_right _ this
  rw [Nat.pow_succ]
  omega
noncomputable def gateV (x:CellD) (is:List Int):Int×Int :=
 if cellB x=true then if x.kind=1 then if is.length+1=x.pins.length∧wiB is 0 1=true then (x.truth.getD (gN is is.length) 0,0) else (0,2) else (0,5) else (0,1)
theorem gateV_1 {x:CellD} {is:List Int} (h:cellB x=false):gateV x is=(0,1):=by
 unfold gateV;rw [if_neg (by rw [h];decide)]
theorem gateV_5 {x:CellD} {is:List Int} (h:cellB x=true) (k:¬x.kind=1):gateV x is=(0,5):=by
 unfold gateV;rw [if_pos h,if_neg k]
theorem gateV_2 {x:CellD} {is:List Int} (h:cellB x=true) (k:x.kind=1) (l:¬(is.length+1=x.pins.length∧wiB is 0 1=true)):gateV x is=(0,2):=by
 unfold gateV;rw [if_pos h,if_pos k,if_neg l]
theorem gateV_0 {x:CellD} {is:List Int} {t:Int} (h:cellB x=true) (k:x.kind=1) (l:is.length+1=x.pins.length) (b:wiB is 0 1=true) (ht:x.truth[gN is is.length]?=some t):gateV x is=(t,0):=by
 unfold gateV;rw [if_pos h,if_pos k,if_pos ⟨l,b⟩,List.getD_eq_getElem?_getD,ht];rfl
theorem gate_truth {x:CellD} (h:cellB x=true) (k:x.kind=1):x.truth.length=2 ^ (x.pins.length - 1)∧2≤x.pins.length∧x.pins.length≤5:=by
 have hp:=pB_iff.1 h
 have hk:=hp.ofKind
 unfold kindB at hk
 rw [if_pos k] at hk
 simp only [Bool.and_eq_true,decide_eq_true_eq] at hk
 exact ⟨hk.1.2,hp.pins.1.1,hp.pins.1.2⟩
theorem gate_bits {x:CellD} (h:cellB x=true) (k:x.kind=1) {i:Nat} {v:Int} (hv:x.truth[i]?=some v):v=0∨v=1:=by
 have hk:=(pB_iff.1 h).ofKind
 unfold kindB at hk
 rw [if_pos k] at hk
 simp only [Bool.and_eq_true,decide_eq_true_eq,List.all_eq_true] at hk
 have:=inB_true (hk.2 v (List.mem_of_getElem? hv))
 omega
theorem or_pow':∀k:Fin 4,∀g:Fin 8,g.val<2 ^ k.val→bits BinOp.or IntKind.i64 (g.val:Int) ((2:Int) ^ k.val)=(g.val:Int)+2 ^ k.val:=by decide
theorem or_zero':∀g:Fin 8,bits BinOp.or IntKind.i64 (g.val:Int) 0=(g.val:Int):=by decide
theorem or_pow {g k:Nat} (hk:k≤3) (hg:(g:Int)<2 ^ k) (h8:(2:Int) ^ k≤8):bits BinOp.or IntKind.i64 (g:Int) ((2:Int) ^ k)=(g:Int)+2 ^ k:=by
 have h2:((2 ^ k:Nat):Int)=(2:Int) ^ k:=by simp
 exact or_pow' ⟨k,by omega⟩ ⟨g,by omega⟩ (by simp only;omega)
theorem or_zero {g k:Nat} (hg:(g:Int)<2 ^ k) (h8:(2:Int) ^ k≤8):bits BinOp.or IntKind.i64 (g:Int) 0=(g:Int):=or_zero' ⟨g,by omega⟩
end Go.Proofs.YtlnpefiipdkafaaGreatDoor
/-
  How the output of a gate depends on an input, in plain Lean.
-/
namespace Go.Proofs.YtlnpefiipdkafaaGreatDoor
open Go.RowKit
/-- one of the first k rows without bit p is raised by that bit -/
def rB (t:List Int) (p k:Nat):Bool:=(List.range k).any fun r=>!r.testBit p&&decide (t.getD r 0<t.getD (r+2 ^ p) 0)
def lB (t:List Int) (p k:Nat):Bool:=(List.range k).any fun r=>!r.testBit p&&decide (t.getD r 0>t.getD (r+2 ^ p) 0)
theorem rB_succ (t:List Int) (p k:Nat):rB t p (k+1)=(rB t p k||(!k.testBit p&&decide (t.getD k 0<t.getD (k+2 ^ p) 0))):=by
 unfold rB;rw [List.range_succ,List.any_append];simp
theorem lB_succ (t:List Int) (p k:Nat):lB t p (k+1)=(lB t p k||(!k.testBit p&&decide (t.getD k 0>t.getD (k+2 ^ p) 0))):=by
 unfold lB;rw [List.range_succ,List.any_append];simp
theorem rB_skip {t:List Int} {p k:Nat} (h:k.testBit p=true):rB t p (k+1)=rB t p k:=by rw [rB_succ,h];simp
theorem lB_skip {t:List Int} {p k:Nat} (h:k.testBit p=true):lB t p (k+1)=lB t p k:=by rw [lB_succ,h];simp
theorem rB_at {t:List Int} {p k:Nat} {a b:Int} (h:k.testBit p=false) (ha:t[k]?=some a) (hb:t[k+2 ^ p]?=some b):rB t p (k+1)=(rB t p k||decide (a<b)):=by
 rw [rB_succ,h,List.getD_eq_getElem?_getD,List.getD_eq_getElem?_getD,ha,hb];simp
theorem lB_at {t:List Int} {p k:Nat} {a b:Int} (h:k.testBit p=false) (ha:t[k]?=some a) (hb:t[k+2 ^ p]?=some b):lB t p (k+1)=(lB t p k||decide (a>b)):=by
 rw [lB_succ,h,List.getD_eq_getElem?_getD,List.getD_eq_getElem?_getD,ha,hb];simp
def senV (r l:Bool):Int:=if r&&l then 3 else if r then 1 else if l then 2 else 0
def senN (t:List Int) (p:Nat):Int:=senV (rB t p t.length) (lB t p t.length)
theorem idx_ok':∀m:Fin 5,∀p:Fin 4,∀i:Fin 16,p.val<m.val→i.val<2 ^ m.val→i.val.testBit p.val=false→i.val+2 ^ p.val<2 ^ m.val:=by decide
theorem idx_ok {m p i:Nat} (hm:m≤4) (hp:p<m) (hi:i<2 ^ m) (h:i.testBit p=false):i+2 ^ p<2 ^ m:=by
 have:2 ^ m≤2 ^ 4:=Nat.pow_le_pow_right (by decide) hm
 exact idx_ok' ⟨m,by omega⟩ ⟨p,by omega⟩ ⟨i,by omega⟩ hp hi h
theorem and_bit':∀p:Fin 4,∀i:Fin 16,(bits BinOp.and IntKind.i64 (i.val:Int) ((2:Int) ^ p.val) != 0)=i.val.testBit p.val:=by decide
theorem shr_bit':∀p:Fin 4,∀i:Fin 16,(bits BinOp.and IntKind.i64 ((i.val:Int) / (2:Int) ^ p.val) 1==1)=i.val.testBit p.val:=by decide
theorem shr_zero':∀i:Fin 16,(bits BinOp.and IntKind.i64 (i.val:Int) 1==1)=i.val.testBit 0:=by decide
theorem or_clear':∀p:Fin 4,∀i:Fin 16,i.val.testBit p.val=false→bits BinOp.or IntKind.i64 (i.val:Int) ((2:Int) ^ p.val)=(i.val:Int)+2 ^ p.val:=by decide
theorem or_one (r l:Bool):bits BinOp.or IntKind.i64 (senV r l) 1=senV true l:=by cases r<;>cases l<;>decide
theorem or_two (r l:Bool):bits BinOp.or IntKind.i64 (senV r l) 2=senV r true:=by cases r<;>cases l<;>decide
theorem senV_bd (r l:Bool):0≤senV r l∧senV r l≤3:=by cases r<;>cases l<;>decide
/-- what a valid gate gives the walk -/
structure GateT (t:List Int) (p:Nat):Prop where
 len:t.length≤16
 bit:∀(i:Nat) (v:Int),t[i]?=some v→v=0∨v=1
 up:∀i:Nat,i<t.length→i.testBit p=false→i+2 ^ p<t.length
 pin:p≤3
theorem GateT.of {x:CellD} (h:cellB x=true) (k:x.kind=1) {p:Nat} (hp:p+1<x.pins.length):GateT x.truth p:=by
 obtain ⟨hl,h2,h5⟩:=gate_truth h k
 have hm:x.pins.length - 1≤4:=by omega
 have:2 ^ (x.pins.length - 1)≤2 ^ 4:=Nat.pow_le_pow_right (by decide) hm
 exact ⟨by omega,fun i v hv=>gate_bits h k hv,fun i hi hb=>by rw [hl] at hi ⊢;exact idx_ok hm (by omega) hi hb,by omega⟩
end Go.Proofs.YtlnpefiipdkafaaGreatDoor
/-
  Contract of the reference's sense of an input.
-/
namespace Go.Proofs.YtlnpefiipdkafaaGreatDoor
open Go.RowKit
set_option maxHeartbeats 4000000 in
theorem l03Sense_0 {v0 v1 v2 v3 v4 v5 v6:Value} {x:CellD} (w:World) (h:RCell w [v0,v1,v2,v3,v4,v5,v6] x) (hg:GateT x.truth 0) :
  Calls Tryz.prog 118 #[.agg #[v0,v1,v2,v3,v4,v5,v6],.int .i64 0] w fun e w'=>e=.returned (.int .i64 (senN x.truth 0))∧Grows w w':=by
 have ht:=h.parts.2.2.2.2.1
 have tl:=hg.len
 obtain ⟨T,nt,rfl,-,-,hx⟩:=RList.form ht
 have g0:=(Grows.refl w).alloc (.cells #[v0,v1,v2,v3,.slice T x.truth.length nt,v5,v6] 112)
 have S:=hideIt (Blk.new w 112 #[v0,v1,v2,v3,.slice T x.truth.length nt,v5,v6])
 have HX:=hideIt hx
 have HG:=hideIt hg
 have G:=hideIt g0
 clear h ht hx g0 hg
 have k4:(w.alloc (.cells #[v0,v1,v2,v3,.slice T x.truth.length nt,v5,v6] 112)).cell? ⟨w.heap.size,4,none⟩=some (.slice T x.truth.length nt):=S.out.cell 4
 have hwb:IntKind.i64.wrap 1=1:=by decide
 go_enter Tryz.func118,Tryz.ntmps118
 go_wp2
 go_loopw [5,6,8] (fun r l i wr=>∃k:Nat,k≤x.truth.length∧i=.int .i64 (k:Int)∧r=.bool (rB x.truth 0 k)∧l=.bool (lB x.truth 0 k)∧Grows (w.alloc (.cells #[v0,v1,v2,v3,.slice T x.truth.length nt,v5,v6] 112)) wr) (fun _ _ i _=>x.truth.length - (intOf i).toNat)
 case atStart=>exact ⟨0,by omega,rfl,rfl,rfl,Grows.refl _⟩
 case round =>
  obtain ⟨k,hk,rfl,rfl,rfl,hg⟩:=hrel
  have HGR:=hideIt hg
  have kl:=(S.out.grows hg).lt
  have k4:wr.cell? ⟨w.heap.size,4,none⟩=some (.slice T x.truth.length nt):=(S.out.grows hg).cell 4
  clear hg
  by_cases hlt:k<x.truth.length
  ·obtain ⟨a,ha⟩:∃a,x.truth[k]?=some a:=⟨_,List.getElem?_eq_getElem hlt⟩
   obtain ⟨b,off,rfl,cs,hl1,hcs,hr⟩:=HX.out k a ha
   unfold RI at hr
   subst hr
   have ka:wr.cell? ⟨b,off+k,none⟩=some (.int .i64 a):=(G.out.trans HGR.out).keeps _ _ (by simpa using hcs 0 _ rfl)
   clear hcs hl1
   have hq0:(bits BinOp.and IntKind.i64 (k:Int) 1 != 0)=k.testBit 0:=and_bit' ⟨0,by decide⟩ ⟨k,by omega⟩
   cases hb:k.testBit 0
   rotate_left
   ·have R1:=hideIt (rB_skip (t:=x.truth) hb)
    have R2:=hideIt (lB_skip (t:=x.truth) hb)
    rw [hb] at hq0
    have K2:=hideIt hk
    clear hb ha
    generalize rB x.truth 0 k=r at *
    generalize lB x.truth 0 k=l at *
    go_wp2
    go_roundw
    case rel=>exact ⟨k+1,by omega,by go_num,by rw [R1.out],by rw [R2.out],HGR.out⟩
    case measure=>simp [intOf];omega
   ·have hup:=HG.out.up k hlt hb
    obtain ⟨c,hc⟩:∃c,x.truth[k+2 ^ 0]?=some c:=⟨_,List.getElem?_eq_getElem hup⟩
    obtain ⟨b',off',e,cs,hl1,hcs,hr⟩:=HX.out _ c hc
    injection e with e
    injection e with e1 e2
    subst e1 e2
    unfold RI at hr
    subst hr
    have kc:wr.cell? ⟨b,off+(k+1),none⟩=some (.int .i64 c):=(G.out.trans HGR.out).keeps _ _ (by simpa using hcs 0 _ rfl)
    have hup2:(k:Int)+1<(x.truth.length:Int):=by simp only [Nat.reducePow] at hup;omega
    have R1:=hideIt (rB_at hb ha hc)
    have R2:=hideIt (lB_at hb ha hc)
    have a01:=HG.out.bit _ _ ha
    have c01:=HG.out.bit _ _ hc
    rw [hb] at hq0
    clear hcs hl1 ha hc hup
    have ew:IntKind.i64.wrap ((k:Int)+1)=(k:Int)+1:=IntWalk.i64_in _ (by omega)
    have en:((k:Int)+1).toNat=k+1:=by omega
    have nn:(0:Int)≤(k:Int)+1:=by omega
    clear hb a01 c01
    generalize rB x.truth 0 k=r at *
    generalize lB x.truth 0 k=l at *
    cases r<;>cases l
    all_goals
     go_wp2
     go_quiet (fail)
     go_wp2
     go_quiet (fail)
     go_wp2
     go_roundw
     case rel=>exact ⟨k+1,by omega,by go_num,by rw [R1.out];simp,by rw [R2.out];simp,by first|exact HGR.out|exact HGR.out.drewN _|exact (HGR.out.drewN _).drewN _⟩
     case measure=>simp [intOf];omega
  ·obtain rfl:k=x.truth.length:=by omega
   have EV:Hid (senN x.truth 0=senV (rB x.truth 0 x.truth.length) (lB x.truth 0 x.truth.length)):=hideIt rfl
   generalize rB x.truth 0 x.truth.length=r at *
   generalize lB x.truth 0 x.truth.length=l at *
   cases r<;>cases l
   all_goals
    go_wp2
    go_ret
    exact ⟨ret_int (by rw [EV.out];rfl),G.out.trans HGR.out⟩
set_option maxHeartbeats 4000000 in
theorem l03Sense_1 {v0 v1 v2 v3 v4 v5 v6:Value} {x:CellD} (w:World) (h:RCell w [v0,v1,v2,v3,v4,v5,v6] x) (hg:GateT x.truth 1) :
  Calls Tryz.prog 118 #[.agg #[v0,v1,v2,v3,v4,v5,v6],.int .i64 1] w fun e w'=>e=.returned (.int .i64 (senN x.truth 1))∧Grows w w':=by
 have ht:=h.parts.2.2.2.2.1
 have tl:=hg.len
 obtain ⟨T,nt,rfl,-,-,hx⟩:=RList.form ht
 have g0:=(Grows.refl w).alloc (.cells #[v0,v1,v2,v3,.slice T x.truth.length nt,v5,v6] 112)
 have S:=hideIt (Blk.new w 112 #[v0,v1,v2,v3,.slice T x.truth.length nt,v5,v6])
 have HX:=hideIt hx
 have HG:=hideIt hg
 have G:=hideIt g0
 clear h ht hx g0 hg
 have k4:(w.alloc (.cells #[v0,v1,v2,v3,.slice T x.truth.length nt,v5,v6] 112)).cell? ⟨w.heap.size,4,none⟩=some (.slice T x.truth.length nt):=S.out.cell 4
 have hwb:IntKind.i64.wrap 2=2:=by decide
 go_enter Tryz.func118,Tryz.ntmps118
 go_wp2
 go_loopw [5,6,8] (fun r l i wr=>∃k:Nat,k≤x.truth.length∧i=.int .i64 (k:Int)∧r=.bool (rB x.truth 1 k)∧l=.bool (lB x.truth 1 k)∧Grows (w.alloc (.cells #[v0,v1,v2,v3,.slice T x.truth.length nt,v5,v6] 112)) wr) (fun _ _ i _=>x.truth.length - (intOf i).toNat)
 case atStart=>exact ⟨0,by omega,rfl,rfl,rfl,Grows.refl _⟩
 case round =>
  obtain ⟨k,hk,rfl,rfl,rfl,hg⟩:=hrel
  have HGR:=hideIt hg
  have kl:=(S.out.grows hg).lt
  have k4:wr.cell? ⟨w.heap.size,4,none⟩=some (.slice T x.truth.length nt):=(S.out.grows hg).cell 4
  clear hg
  by_cases hlt:k<x.truth.length
  ·obtain ⟨a,ha⟩:∃a,x.truth[k]?=some a:=⟨_,List.getElem?_eq_getElem hlt⟩
   obtain ⟨b,off,rfl,cs,hl1,hcs,hr⟩:=HX.out k a ha
   unfold RI at hr
   subst hr
   have ka:wr.cell? ⟨b,off+k,none⟩=some (.int .i64 a):=(G.out.trans HGR.out).keeps _ _ (by simpa using hcs 0 _ rfl)
   clear hcs hl1
   have hq0:(bits BinOp.and IntKind.i64 (k:Int) 2 != 0)=k.testBit 1:=and_bit' ⟨1,by decide⟩ ⟨k,by omega⟩
   cases hb:k.testBit 1
   rotate_left
   ·have R1:=hideIt (rB_skip (t:=x.truth) hb)
    have R2:=hideIt (lB_skip (t:=x.truth) hb)
    rw [hb] at hq0
    have K2:=hideIt hk
    clear hb ha
    generalize rB x.truth 1 k=r at *
    generalize lB x.truth 1 k=l at *
    go_wp2
    go_roundw
    case rel=>exact ⟨k+1,by omega,by go_num,by rw [R1.out],by rw [R2.out],HGR.out⟩
    case measure=>simp [intOf];omega
   ·have hup:=HG.out.up k hlt hb
    obtain ⟨c,hc⟩:∃c,x.truth[k+2 ^ 1]?=some c:=⟨_,List.getElem?_eq_getElem hup⟩
    obtain ⟨b',off',e,cs,hl1,hcs,hr⟩:=HX.out _ c hc
    injection e with e
    injection e with e1 e2
    subst e1 e2
    unfold RI at hr
    subst hr
    have kc:wr.cell? ⟨b,off+(k+2),none⟩=some (.int .i64 c):=(G.out.trans HGR.out).keeps _ _ (by simpa using hcs 0 _ rfl)
    have hup2:(k:Int)+2<(x.truth.length:Int):=by simp only [Nat.reducePow] at hup;omega
    have R1:=hideIt (rB_at hb ha hc)
    have R2:=hideIt (lB_at hb ha hc)
    have a01:=HG.out.bit _ _ ha
    have c01:=HG.out.bit _ _ hc
    rw [hb] at hq0
    clear hcs hl1 ha hc hup
    have ew:IntKind.i64.wrap ((k:Int)+2)=(k:Int)+2:=IntWalk.i64_in _ (by omega)
    have en:((k:Int)+2).toNat=k+2:=by omega
    have nn:(0:Int)≤(k:Int)+2:=by omega
    clear hb a01 c01
    generalize rB x.truth 1 k=r at *
    generalize lB x.truth 1 k=l at *
    cases r<;>cases l
    all_goals
     go_wp2
     go_quiet (fail)
     go_wp2
     go_quiet (fail)
     go_wp2
     go_roundw
     case rel=>exact ⟨k+1,by omega,by go_num,by rw [R1.out];simp,by rw [R2.out];simp,by first|exact HGR.out|exact HGR.out.drewN _|exact (HGR.out.drewN _).drewN _⟩
     case measure=>simp [intOf];omega
  ·obtain rfl:k=x.truth.length:=by omega
   have EV:Hid (senN x.truth 1=senV (rB x.truth 1 x.truth.length) (lB x.truth 1 x.truth.length)):=hideIt rfl
   generalize rB x.truth 1 x.truth.length=r at *
   generalize lB x.truth 1 x.truth.length=l at *
   cases r<;>cases l
   all_goals
    go_wp2
    go_ret
    exact ⟨ret_int (by rw [EV.out];rfl),G.out.trans HGR.out⟩
set_option maxHeartbeats 4000000 in
theorem l03Sense_2 {v0 v1 v2 v3 v4 v5 v6:Value} {x:CellD} (w:World) (h:RCell w [v0,v1,v2,v3,v4,v5,v6] x) (hg:GateT x.truth 2) :
  Calls Tryz.prog 118 #[.agg #[v0,v1,v2,v3,v4,v5,v6],.int .i64 2] w fun e w'=>e=.returned (.int .i64 (senN x.truth 2))∧Grows w w':=by
 have ht:=h.parts.2.2.2.2.1
 have tl:=hg.len
 obtain ⟨T,nt,rfl,-,-,hx⟩:=RList.form ht
 have g0:=(Grows.refl w).alloc (.cells #[v0,v1,v2,v3,.slice T x.truth.length nt,v5,v6] 112)
 have S:=hideIt (Blk.new w 112 #[v0,v1,v2,v3,.slice T x.truth.length nt,v5,v6])
 have HX:=hideIt hx
 have HG:=hideIt hg
 have G:=hideIt g0
 clear h ht hx g0 hg
 have k4:(w.alloc (.cells #[v0,v1,v2,v3,.slice T x.truth.length nt,v5,v6] 112)).cell? ⟨w.heap.size,4,none⟩=some (.slice T x.truth.length nt):=S.out.cell 4
 have hwb:IntKind.i64.wrap 4=4:=by decide
 go_enter Tryz.func118,Tryz.ntmps118
 go_wp2
 go_loopw [5,6,8] (fun r l i wr=>∃k:Nat,k≤x.truth.length∧i=.int .i64 (k:Int)∧r=.bool (rB x.truth 2 k)∧l=.bool (lB x.truth 2 k)∧Grows (w.alloc (.cells #[v0,v1,v2,v3,.slice T x.truth.length nt,v5,v6] 112)) wr) (fun _ _ i _=>x.truth.length - (intOf i).toNat)
 case atStart=>exact ⟨0,by omega,rfl,rfl,rfl,Grows.refl _⟩
 case round =>
  obtain ⟨k,hk,rfl,rfl,rfl,hg⟩:=hrel
  have HGR:=hideIt hg
  have kl:=(S.out.grows hg).lt
  have k4:wr.cell? ⟨w.heap.size,4,none⟩=some (.slice T x.truth.length nt):=(S.out.grows hg).cell 4
  clear hg
  by_cases hlt:k<x.truth.length
  ·obtain ⟨a,ha⟩:∃a,x.truth[k]?=some a:=⟨_,List.getElem?_eq_getElem hlt⟩
   obtain ⟨b,off,rfl,cs,hl1,hcs,hr⟩:=HX.out k a ha
   unfold RI at hr
   subst hr
   have ka:wr.cell? ⟨b,off+k,none⟩=some (.int .i64 a):=(G.out.trans HGR.out).keeps _ _ (by simpa using hcs 0 _ rfl)
   clear hcs hl1
   have hq0:(bits BinOp.and IntKind.i64 (k:Int) 4 != 0)=k.testBit 2:=and_bit' ⟨2,by decide⟩ ⟨k,by omega⟩
   cases hb:k.testBit 2
   rotate_left
   ·have R1:=hideIt (rB_skip (t:=x.truth) hb)
    have R2:=hideIt (lB_skip (t:=x.truth) hb)
    rw [hb] at hq0
    have K2:=hideIt hk
    clear hb ha
    generalize rB x.truth 2 k=r at *
    generalize lB x.truth 2 k=l at *
    go_wp2
    go_roundw
    case rel=>exact ⟨k+1,by omega,by go_num,by rw [R1.out],by rw [R2.out],HGR.out⟩
    case measure=>simp [intOf];omega
   ·have hup:=HG.out.up k hlt hb
    obtain ⟨c,hc⟩:∃c,x.truth[k+2 ^ 2]?=some c:=⟨_,List.getElem?_eq_getElem hup⟩
    obtain ⟨b',off',e,cs,hl1,hcs,hr⟩:=HX.out _ c hc
    injection e with e
    injection e with e1 e2
    subst e1 e2
    unfold RI at hr
    subst hr
    have kc:wr.cell? ⟨b,off+(k+4),none⟩=some (.int .i64 c):=(G.out.trans HGR.out).keeps _ _ (by simpa using hcs 0 _ rfl)
    have hup2:(k:Int)+4<(x.truth.length:Int):=by simp only [Nat.reducePow] at hup;omega
    have R1:=hideIt (rB_at hb ha hc)
    have R2:=hideIt (lB_at hb ha hc)
    have a01:=HG.out.bit _ _ ha
    have c01:=HG.out.bit _ _ hc
    rw [hb] at hq0
    clear hcs hl1 ha hc hup
    have ew:IntKind.i64.wrap ((k:Int)+4)=(k:Int)+4:=IntWalk.i64_in _ (by omega)
    have en:((k:Int)+4).toNat=k+4:=by omega
    have nn:(0:Int)≤(k:Int)+4:=by omega
    clear hb a01 c01
    generalize rB x.truth 2 k=r at *
    generalize lB x.truth 2 k=l at *
    cases r<;>cases l
    all_goals
     go_wp2
     go_quiet (fail)
     go_wp2
     go_quiet (fail)
     go_wp2
     go_roundw
     case rel=>exact ⟨k+1,by omega,by go_num,by rw [R1.out];simp,by rw [R2.out];simp,by first|exact HGR.out|exact HGR.out.drewN _|exact (HGR.out.drewN _).drewN _⟩
     case measure=>simp [intOf];omega
  ·obtain rfl:k=x.truth.length:=by omega
   have EV:Hid (senN x.truth 2=senV (rB x.truth 2 x.truth.length) (lB x.truth 2 x.truth.length)):=hideIt rfl
   generalize rB x.truth 2 x.truth.length=r at *
   generalize lB x.truth 2 x.truth.length=l at *
   cases r<;>cases l
   all_goals
    go_wp2
    go_ret
    exact ⟨ret_int (by rw [EV.out];rfl),G.out.trans HGR.out⟩
set_option maxHeartbeats 4000000 in
theorem l03Sense_3 {v0 v1 v2 v3 v4 v5 v6:Value} {x:CellD} (w:World) (h:RCell w [v0,v1,v2,v3,v4,v5,v6] x) (hg:GateT x.truth 3) :
  Calls Tryz.prog 118 #[.agg #[v0,v1,v2,v3,v4,v5,v6],.int .i64 3] w fun e w'=>e=.returned (.int .i64 (senN x.truth 3))∧Grows w w':=by
 have ht:=h.parts.2.2.2.2.1
 have tl:=hg.len
 obtain ⟨T,nt,rfl,-,-,hx⟩:=RList.form ht
 have g0:=(Grows.refl w).alloc (.cells #[v0,v1,v2,v3,.slice T x.truth.length nt,v5,v6] 112)
 have S:=hideIt (Blk.new w 112 #[v0,v1,v2,v3,.slice T x.truth.length nt,v5,v6])
 have HX:=hideIt hx
 have HG:=hideIt hg
 have G:=hideIt g0
 clear h ht hx g0 hg
 have k4:(w.alloc (.cells #[v0,v1,v2,v3,.slice T x.truth.length nt,v5,v6] 112)).cell? ⟨w.heap.size,4,none⟩=some (.slice T x.truth.length nt):=S.out.cell 4
 have hwb:IntKind.i64.wrap 8=8:=by decide
 go_enter Tryz.func118,Tryz.ntmps118
 go_wp2
 go_loopw [5,6,8] (fun r l i wr=>∃k:Nat,k≤x.truth.length∧i=.int .i64 (k:Int)∧r=.bool (rB x.truth 3 k)∧l=.bool (lB x.truth 3 k)∧Grows (w.alloc (.cells #[v0,v1,v2,v3,.slice T x.truth.length nt,v5,v6] 112)) wr) (fun _ _ i _=>x.truth.length - (intOf i).toNat)
 case atStart=>exact ⟨0,by omega,rfl,rfl,rfl,Grows.refl _⟩
 case round =>
  obtain ⟨k,hk,rfl,rfl,rfl,hg⟩:=hrel
  have HGR:=hideIt hg
  have kl:=(S.out.grows hg).lt
  have k4:wr.cell? ⟨w.heap.size,4,none⟩=some (.slice T x.truth.length nt):=(S.out.grows hg).cell 4
  clear hg
  by_cases hlt:k<x.truth.length
  ·obtain ⟨a,ha⟩:∃a,x.truth[k]?=some a:=⟨_,List.getElem?_eq_getElem hlt⟩
   obtain ⟨b,off,rfl,cs,hl1,hcs,hr⟩:=HX.out k a ha
   unfold RI at hr
   subst hr
   have ka:wr.cell? ⟨b,off+k,none⟩=some (.int .i64 a):=(G.out.trans HGR.out).keeps _ _ (by simpa using hcs 0 _ rfl)
   clear hcs hl1
   have hq0:(bits BinOp.and IntKind.i64 (k:Int) 8 != 0)=k.testBit 3:=and_bit' ⟨3,by decide⟩ ⟨k,by omega⟩
   cases hb:k.testBit 3
   rotate_left
   ·have R1:=hideIt (rB_skip (t:=x.truth) hb)
    have R2:=hideIt (lB_skip (t:=x.truth) hb)
    rw [hb] at hq0
    have K2:=hideIt hk
    clear hb ha
    generalize rB x.truth 3 k=r at *
    generalize lB x.truth 3 k=l at *
    go_wp2
    go_roundw
    case rel=>exact ⟨k+1,by omega,by go_num,by rw [R1.out],by rw [R2.out],HGR.out⟩
    case measure=>simp [intOf];omega
   ·have hup:=HG.out.up k hlt hb
    obtain ⟨c,hc⟩:∃c,x.truth[k+2 ^ 3]?=some c:=⟨_,List.getElem?_eq_getElem hup⟩
    obtain ⟨b',off',e,cs,hl1,hcs,hr⟩:=HX.out _ c hc
    injection e with e
    injection e with e1 e2
    subst e1 e2
    unfold RI at hr
    subst hr
    have kc:wr.cell? ⟨b,off+(k+8),none⟩=some (.int .i64 c):=(G.out.trans HGR.out).keeps _ _ (by simpa using hcs 0 _ rfl)
    have hup2:(k:Int)+8<(x.truth.length:Int):=by simp only [Nat.reducePow] at hup;omega
    have R1:=hideIt (rB_at hb ha hc)
    have R2:=hideIt (lB_at hb ha hc)
    have a01:=HG.out.bit _ _ ha
    have c01:=HG.out.bit _ _ hc
    rw [hb] at hq0
    clear hcs hl1 ha hc hup
    have ew:IntKind.i64.wrap ((k:Int)+8)=(k:Int)+8:=IntWalk.i64_in _ (by omega)
    have en:((k:Int)+8).toNat=k+8:=by omega
    have nn:(0:Int)≤(k:Int)+8:=by omega
    clear hb a01 c01
    generalize rB x.truth 3 k=r at *
    generalize lB x.truth 3 k=l at *
    cases r<;>cases l
    all_goals
     go_wp2
     go_quiet (fail)
     go_wp2
     go_quiet (fail)
     go_wp2
     go_roundw
     case rel=>exact ⟨k+1,by omega,by go_num,by rw [R1.out];simp,by rw [R2.out];simp,by first|exact HGR.out|exact HGR.out.drewN _|exact (HGR.out.drewN _).drewN _⟩
     case measure=>simp [intOf];omega
  ·obtain rfl:k=x.truth.length:=by omega
   have EV:Hid (senN x.truth 3=senV (rB x.truth 3 x.truth.length) (lB x.truth 3 x.truth.length)):=hideIt rfl
   generalize rB x.truth 3 x.truth.length=r at *
   generalize lB x.truth 3 x.truth.length=l at *
   cases r<;>cases l
   all_goals
    go_wp2
    go_ret
    exact ⟨ret_int (by rw [EV.out];rfl),G.out.trans HGR.out⟩
theorem l03Sense_any {v0 v1 v2 v3 v4 v5 v6:Value} {x:CellD} {p:Nat} (w:World) (h:RCell w [v0,v1,v2,v3,v4,v5,v6] x) (hg:GateT x.truth p) :
  Calls Tryz.prog 118 #[.agg #[v0,v1,v2,v3,v4,v5,v6],.int .i64 (p:Int)] w fun e w'=>e=.returned (.int .i64 (senN x.truth p))∧Grows w w':=by
 have:=hg.pin
 have hp:p=0∨p=1∨p=2∨p=3:=by omega
 rcases hp with rfl|rfl|rfl|rfl
 ·exact l03Sense_0 w h hg
 ·exact l03Sense_1 w h hg
 ·exact l03Sense_2 w h hg
 ·exact l03Sense_3 w h hg
end Go.Proofs.YtlnpefiipdkafaaGreatDoor
