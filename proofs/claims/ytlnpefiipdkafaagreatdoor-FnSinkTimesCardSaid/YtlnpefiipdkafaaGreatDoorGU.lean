/-
  Contracts of IsWire, the reference's and the program's.
-/
import Derived.Test.YtlnpefiipdkafaaGreatDoorGB
namespace Go.Proofs.YtlnpefiipdkafaaGreatDoor
open Go.RowKit

def treeOk (p res:List Int) (i:Nat):Bool:=if i=0 then p.getD 0 0==-1&&res.getD 0 0==0 else inB (p.getD i 0) 0 ((i:Int) - 1)
def treeB (p res:List Int):Bool:=(List.range p.length).all (treeOk p res)
def wireB (x:WireD) (sinks:Int):Bool :=
 inB x.parent.length 1 8&&decide (x.res.length=x.parent.length)&&decide (x.cap.length=x.parent.length)&&treeB x.parent x.res&&wiB x.res 0 1000&&wiB x.cap 0 500&&decide ((x.sink.length:Int)=sinks)&&wiB x.sink 0 ((x.parent.length:Int) - 1)
theorem treeB_no {p res:List Int} {i:Nat} (hi:i<p.length) (h:treeOk p res i=false):treeB p res=false:=by
 unfold treeB
 rw [List.all_eq_false]
 exact ⟨i,List.mem_range.2 hi,by simp [h]⟩
theorem treeB_mk {p res:List Int} (h:∀i,i<p.length→treeOk p res i=true):treeB p res=true:=by
 unfold treeB
 rw [List.all_eq_true]
 exact fun i hi=>h i (List.mem_range.1 hi)
theorem treeOk_0 {p res:List Int} {x r:Int} (hx:p[0]?=some x) (hr:res[0]?=some r):treeOk p res 0=(x==-1&&r==0):=by
 simp [treeOk,List.getD,hx,hr]
theorem treeOk_s {p res:List Int} {m:Nat} {x:Int} (hx:p[m+1]?=some x):treeOk p res (m+1)=inB x 0 (m:Int):=by
 have:((m:Int)+1 - 1)=(m:Int):=by omega
 simp [treeOk,List.getD,hx,this]

set_option maxHeartbeats 2000000 in
theorem isTree_any {a b c d:Value} {x:WireD} (w:World) (h:RWire w [a,b,c,d] x) (hl:x.res.length=x.parent.length) :
  Calls Tryz.prog 133 #[.agg #[a,b,c,d]] w fun e w'=>e=.returned (.bool (treeB x.parent x.res))∧Grows w w':=by
 obtain ⟨ha,hb,hc,hd⟩:=h.open_
 have l1:=ha.len
 have l2:=hb.len
 obtain ⟨A1,n1,rfl,-,-,hx⟩:=ha.form
 obtain ⟨A2,n2,rfl,-,-,hy⟩:=hb.form
 have g0:Grows w (w.alloc (.cells #[.slice A1 x.parent.length n1,.slice A2 x.res.length n2,c,d] 56)):=(Grows.refl w).alloc _
 have HX:=hideIt hx
 have HY:=hideIt hy
 have G:=hideIt g0
 have HL:=hideIt hl
 clear ha hb hc hd hx hy g0 h hl
 go_enter Tryz.func133,Tryz.ntmps133
 go_wp2
 go_loop [3,4,8] (fun _ _ i=>∃k:Nat,k≤x.parent.length∧i=.int .i64 (k:Int)∧Hid (∀j,j<k→treeOk x.parent x.res j=true)) (fun _ _ i=>x.parent.length - (intOf i).toNat)
 case atStart=>exact ⟨0,Nat.zero_le _,rfl,fun j hj=>absurd hj (by omega)⟩
 case round =>
  obtain ⟨k,hk,rfl,hco⟩:=hrel
  by_cases hlt:k<x.parent.length
  ·obtain ⟨p,hp⟩:∃p,x.parent[k]?=some p:=⟨_,List.getElem?_eq_getElem hlt⟩
   obtain ⟨b,off,rfl,cs,hl1,hcs,hr⟩:=HX.out k p hp
   unfold RI at hr
   subst hr
   have hs:(w.alloc (.cells #[.slice (some ⟨b,off,none⟩) x.parent.length n1,.slice A2 x.res.length n2,c,d] 56)).cell? ⟨b,off+k,none⟩=some (.int .i64 p):=by simpa using G.out.keeps _ _ (hcs 0 _ rfl)
   have P1:=hideIt hp
   clear hcs hl1 hp
   rcases k with _|m
   ·obtain ⟨r,hr⟩:∃r,x.res[0]?=some r:=⟨_,List.getElem?_eq_getElem (by have:=HL.out;omega)⟩
    obtain ⟨b2,off2,rfl,cs2,hl2,hcs2,hr2⟩:=HY.out 0 r hr
    unfold RI at hr2
    subst hr2
    have hs2:(w.alloc (.cells #[.slice (some ⟨b,off,none⟩) x.parent.length n1,.slice (some ⟨b2,off2,none⟩) x.res.length n2,c,d] 56)).cell? ⟨b2,off2,none⟩=some (.int .i64 r):=by simpa using G.out.keeps _ _ (hcs2 0 _ rfl)
    simp only [Nat.add_zero] at hs
    have R1:=hideIt hr
    clear hcs2 hl2 hr
    have hlr:0<x.res.length:=by have:=HL.out;omega
    have T:=hideIt (treeOk_0 P1.out R1.out)
    cases h1:(p != -1)<;>cases h2:(r != 0)
    all_goals have E1:=hideIt h1
    all_goals have E2:=hideIt h2
    ·go_wp2
     go_round
     case rel=>exact ⟨1,by omega,by go_num,fun j hj=>by
      obtain rfl:j=0:=by omega
      rw [T.out];have:=E1.out;have:=E2.out;simp_all⟩
     case measure=>simp [intOf];omega
    all_goals
     go_wp2
     go_ret
     exact ⟨ret_bool (treeB_no hlt (by rw [T.out];have:=E1.out;have:=E2.out;simp_all)).symm,G.out⟩
   ·have T:=hideIt (treeOk_s (res:=x.res) P1.out)
    have hz:(((m:Int)+1)==0)=false:=by rw [beq_eq_false_iff_ne];omega
    cases h1:inB p 0 (m:Int)
    ·have E1:=hideIt h1
     go_wp2_with (go_at_call 69;refine (within_any _ _ _ _).mono ?_;rintro e w' ⟨rfl,rfl⟩;rw [E1.out])
     go_ret
     exact ⟨ret_bool (treeB_no hlt (by rw [T.out];exact E1.out)).symm,G.out⟩
    ·have E1:=hideIt h1
     go_wp2_with (go_at_call 69;refine (within_any _ _ _ _).mono ?_;rintro e w' ⟨rfl,rfl⟩;rw [E1.out])
     go_round
     case rel=>exact ⟨m+1+1,by omega,by go_num,fun j hj=>by
      by_cases e:j=m+1
      ·subst e;rw [T.out];exact E1.out
      ·exact hco.out j (by omega)⟩
     case measure=>simp [intOf];omega
  ·have hk2:k=x.parent.length:=by omega
   subst hk2
   go_wp2
   go_ret
   exact ⟨ret_bool (treeB_mk hco.out).symm,G.out⟩
-- BY PROGRAM
set_option maxHeartbeats 4000000 in
theorem iIsWire_any {a b c d:Value} {x:WireD} {sinks:Int} (w:World) (h:RWire w [a,b,c,d] x) :
  Calls Tryz.prog 116 #[.agg #[a,b,c,d],.int .i64 sinks] w fun e w'=>e=.returned (.bool (wireB x sinks))∧Grows w w':=by
 have E:Hid (wireB x sinks=(inB x.parent.length 1 8&&decide (x.res.length=x.parent.length)&&decide (x.cap.length=x.parent.length)&&treeB x.parent x.res&&wiB x.res 0 1000&&wiB x.cap 0 500&&decide ((x.sink.length:Int)=sinks)&&wiB x.sink 0 ((x.parent.length:Int) - 1))):=rfl
 have hw:=h
 obtain ⟨ha,hb,hc,hd⟩:=h.open_
 have l0:=ha.len
 have l1:=hb.len
 have l2:=hc.len
 have l3:=hd.len
 obtain ⟨A0,n0,rfl⟩:=ha.shape
 obtain ⟨A1,n1,rfl⟩:=hb.shape
 obtain ⟨A2,n2,rfl⟩:=hc.shape
 obtain ⟨A3,n3,rfl⟩:=hd.shape
 clear h
 cases c1:inB x.parent.length 1 8
 ·have C1:=hideIt c1
  clear c1
  have g:Grows w w:=Grows.refl w
  have G:Hid (Grows w (w.alloc (.cells #[.slice A0 x.parent.length n0,.slice A1 x.res.length n1,.slice A2 x.cap.length n2,.slice A3 x.sink.length n3] 56))):=hideIt ((Grows.refl w).alloc _)
  clear g
  have S:Hid (Blk (w.alloc (.cells #[.slice A0 x.parent.length n0,.slice A1 x.res.length n1,.slice A2 x.cap.length n2,.slice A3 x.sink.length n3] 56)) (w.heap.size) 56 #[.slice A0 x.parent.length n0,.slice A1 x.res.length n1,.slice A2 x.cap.length n2,.slice A3 x.sink.length n3]):=by
   have:=(Blk.new w 56 #[.slice A0 x.parent.length n0,.slice A1 x.res.length n1,.slice A2 x.cap.length n2,.slice A3 x.sink.length n3]).grows (Grows.refl _)
   exact hideIt (by simpa using this)
  replace ha:=hideIt (ha.keep G.out.keeps)
  replace hb:=hideIt (hb.keep G.out.keeps)
  replace hc:=hideIt (hc.keep G.out.keeps)
  replace hd:=hideIt (hd.keep G.out.keeps)
  replace hw:=hideIt (hw.keep G.out.keeps)
  go_enter Tryz.func116,Tryz.ntmps116
  have kS_0:(w.alloc (.cells #[.slice A0 x.parent.length n0,.slice A1 x.res.length n1,.slice A2 x.cap.length n2,.slice A3 x.sink.length n3] 56)).cell? ⟨w.heap.size,0,none⟩=some (.slice A0 x.parent.length n0):=S.out.cell 0
  have kS_1:(w.alloc (.cells #[.slice A0 x.parent.length n0,.slice A1 x.res.length n1,.slice A2 x.cap.length n2,.slice A3 x.sink.length n3] 56)).cell? ⟨w.heap.size,1,none⟩=some (.slice A1 x.res.length n1):=S.out.cell 1
  have kS_2:(w.alloc (.cells #[.slice A0 x.parent.length n0,.slice A1 x.res.length n1,.slice A2 x.cap.length n2,.slice A3 x.sink.length n3] 56)).cell? ⟨w.heap.size,2,none⟩=some (.slice A2 x.cap.length n2):=S.out.cell 2
  have kS_3:(w.alloc (.cells #[.slice A0 x.parent.length n0,.slice A1 x.res.length n1,.slice A2 x.cap.length n2,.slice A3 x.sink.length n3] 56)).cell? ⟨w.heap.size,3,none⟩=some (.slice A3 x.sink.length n3):=S.out.cell 3
  have fS:=S.out.frozen
  have lS:w.heap.size<(w.alloc (.cells #[.slice A0 x.parent.length n0,.slice A1 x.res.length n1,.slice A2 x.cap.length n2,.slice A3 x.sink.length n3] 56)).heap.size:=S.out.lt
  go_wp2_with fail
  refine (lengthI64_any _ ha.out).mono ?_
  rintro e wq ⟨rfl,rfl⟩
  go_wp2_with fail
  refine (within_any _ _ _ _).mono ?_
  rintro e wq ⟨rfl,rfl⟩
  rw [C1.out]
  go_wp2
  go_ret
  exact ⟨ret_bool (by rw [E.out,C1.out];simp),G.out⟩
 have C1:=hideIt c1
 have hn:=inB_true c1
 obtain ⟨hn1,hn2⟩:=hn
 clear c1
 cases c2:decide (x.res.length=x.parent.length)
 ·have C2:=hideIt c2
  have e2:((x.res.length:Int)==(x.parent.length:Int))=false:=by rw [beq_eq_false_iff_ne];have:=of_decide_eq_false c2;omega
  clear c2
  have g:Grows w w:=Grows.refl w
  have G:Hid (Grows w (w.alloc (.cells #[.slice A0 x.parent.length n0,.slice A1 x.res.length n1,.slice A2 x.cap.length n2,.slice A3 x.sink.length n3] 56))):=hideIt ((Grows.refl w).alloc _)
  clear g
  have S:Hid (Blk (w.alloc (.cells #[.slice A0 x.parent.length n0,.slice A1 x.res.length n1,.slice A2 x.cap.length n2,.slice A3 x.sink.length n3] 56)) (w.heap.size) 56 #[.slice A0 x.parent.length n0,.slice A1 x.res.length n1,.slice A2 x.cap.length n2,.slice A3 x.sink.length n3]):=by
   have:=(Blk.new w 56 #[.slice A0 x.parent.length n0,.slice A1 x.res.length n1,.slice A2 x.cap.length n2,.slice A3 x.sink.length n3]).grows (Grows.refl _)
   exact hideIt (by simpa using this)
  replace ha:=hideIt (ha.keep G.out.keeps)
  replace hb:=hideIt (hb.keep G.out.keeps)
  replace hc:=hideIt (hc.keep G.out.keeps)
  replace hd:=hideIt (hd.keep G.out.keeps)
  replace hw:=hideIt (hw.keep G.out.keeps)
  go_enter Tryz.func116,Tryz.ntmps116
  have kS_0:(w.alloc (.cells #[.slice A0 x.parent.length n0,.slice A1 x.res.length n1,.slice A2 x.cap.length n2,.slice A3 x.sink.length n3] 56)).cell? ⟨w.heap.size,0,none⟩=some (.slice A0 x.parent.length n0):=S.out.cell 0
  have kS_1:(w.alloc (.cells #[.slice A0 x.parent.length n0,.slice A1 x.res.length n1,.slice A2 x.cap.length n2,.slice A3 x.sink.length n3] 56)).cell? ⟨w.heap.size,1,none⟩=some (.slice A1 x.res.length n1):=S.out.cell 1
  have kS_2:(w.alloc (.cells #[.slice A0 x.parent.length n0,.slice A1 x.res.length n1,.slice A2 x.cap.length n2,.slice A3 x.sink.length n3] 56)).cell? ⟨w.heap.size,2,none⟩=some (.slice A2 x.cap.length n2):=S.out.cell 2
  have kS_3:(w.alloc (.cells #[.slice A0 x.parent.length n0,.slice A1 x.res.length n1,.slice A2 x.cap.length n2,.slice A3 x.sink.length n3] 56)).cell? ⟨w.heap.size,3,none⟩=some (.slice A3 x.sink.length n3):=S.out.cell 3
  have fS:=S.out.frozen
  have lS:w.heap.size<(w.alloc (.cells #[.slice A0 x.parent.length n0,.slice A1 x.res.length n1,.slice A2 x.cap.length n2,.slice A3 x.sink.length n3] 56)).heap.size:=S.out.lt
  go_wp2_with fail
  refine (lengthI64_any _ ha.out).mono ?_
  rintro e wq ⟨rfl,rfl⟩
  go_wp2_with fail
  refine (within_any _ _ _ _).mono ?_
  rintro e wq ⟨rfl,rfl⟩
  rw [C1.out]
  go_wp2_with fail
  refine (lengthI64_any _ hb.out).mono ?_
  rintro e wq ⟨rfl,rfl⟩
  go_wp2
  go_ret
  exact ⟨ret_bool (by rw [E.out,C1.out,C2.out];simp),G.out⟩
 have C2:=hideIt c2
 have L2:=hideIt (of_decide_eq_true c2)
 have e2:((x.res.length:Int)==(x.parent.length:Int))=true:=by rw [beq_iff_eq];have:=of_decide_eq_true c2;omega
 clear c2
 cases c3:decide (x.cap.length=x.parent.length)
 ·have C3:=hideIt c3
  have e3:((x.cap.length:Int)==(x.parent.length:Int))=false:=by rw [beq_eq_false_iff_ne];have:=of_decide_eq_false c3;omega
  clear c3
  have g:Grows w w:=Grows.refl w
  have G:Hid (Grows w (w.alloc (.cells #[.slice A0 x.parent.length n0,.slice A1 x.res.length n1,.slice A2 x.cap.length n2,.slice A3 x.sink.length n3] 56))):=hideIt ((Grows.refl w).alloc _)
  clear g
  have S:Hid (Blk (w.alloc (.cells #[.slice A0 x.parent.length n0,.slice A1 x.res.length n1,.slice A2 x.cap.length n2,.slice A3 x.sink.length n3] 56)) (w.heap.size) 56 #[.slice A0 x.parent.length n0,.slice A1 x.res.length n1,.slice A2 x.cap.length n2,.slice A3 x.sink.length n3]):=by
   have:=(Blk.new w 56 #[.slice A0 x.parent.length n0,.slice A1 x.res.length n1,.slice A2 x.cap.length n2,.slice A3 x.sink.length n3]).grows (Grows.refl _)
   exact hideIt (by simpa using this)
  replace ha:=hideIt (ha.keep G.out.keeps)
  replace hb:=hideIt (hb.keep G.out.keeps)
  replace hc:=hideIt (hc.keep G.out.keeps)
  replace hd:=hideIt (hd.keep G.out.keeps)
  replace hw:=hideIt (hw.keep G.out.keeps)
  go_enter Tryz.func116,Tryz.ntmps116
  have kS_0:(w.alloc (.cells #[.slice A0 x.parent.length n0,.slice A1 x.res.length n1,.slice A2 x.cap.length n2,.slice A3 x.sink.length n3] 56)).cell? ⟨w.heap.size,0,none⟩=some (.slice A0 x.parent.length n0):=S.out.cell 0
  have kS_1:(w.alloc (.cells #[.slice A0 x.parent.length n0,.slice A1 x.res.length n1,.slice A2 x.cap.length n2,.slice A3 x.sink.length n3] 56)).cell? ⟨w.heap.size,1,none⟩=some (.slice A1 x.res.length n1):=S.out.cell 1
  have kS_2:(w.alloc (.cells #[.slice A0 x.parent.length n0,.slice A1 x.res.length n1,.slice A2 x.cap.length n2,.slice A3 x.sink.length n3] 56)).cell? ⟨w.heap.size,2,none⟩=some (.slice A2 x.cap.length n2):=S.out.cell 2
  have kS_3:(w.alloc (.cells #[.slice A0 x.parent.length n0,.slice A1 x.res.length n1,.slice A2 x.cap.length n2,.slice A3 x.sink.length n3] 56)).cell? ⟨w.heap.size,3,none⟩=some (.slice A3 x.sink.length n3):=S.out.cell 3
  have fS:=S.out.frozen
  have lS:w.heap.size<(w.alloc (.cells #[.slice A0 x.parent.length n0,.slice A1 x.res.length n1,.slice A2 x.cap.length n2,.slice A3 x.sink.length n3] 56)).heap.size:=S.out.lt
  go_wp2_with fail
  refine (lengthI64_any _ ha.out).mono ?_
  rintro e wq ⟨rfl,rfl⟩
  go_wp2_with fail
  refine (within_any _ _ _ _).mono ?_
  rintro e wq ⟨rfl,rfl⟩
  rw [C1.out]
  go_wp2_with fail
  refine (lengthI64_any _ hb.out).mono ?_
  rintro e wq ⟨rfl,rfl⟩
  go_wp2_with fail
  refine (lengthI64_any _ hc.out).mono ?_
  rintro e wq ⟨rfl,rfl⟩
  go_wp2
  go_ret
  exact ⟨ret_bool (by rw [E.out,C1.out,C2.out,C3.out];simp),G.out⟩
 have C3:=hideIt c3
 have e3:((x.cap.length:Int)==(x.parent.length:Int))=true:=by rw [beq_iff_eq];have:=of_decide_eq_true c3;omega
 clear c3
 cases c4:treeB x.parent x.res
 ·have C4:=hideIt c4
  clear c4
  have g:Grows w w:=Grows.refl w
  have G:Hid (Grows w (w.alloc (.cells #[.slice A0 x.parent.length n0,.slice A1 x.res.length n1,.slice A2 x.cap.length n2,.slice A3 x.sink.length n3] 56))):=hideIt ((Grows.refl w).alloc _)
  clear g
  have S:Hid (Blk (w.alloc (.cells #[.slice A0 x.parent.length n0,.slice A1 x.res.length n1,.slice A2 x.cap.length n2,.slice A3 x.sink.length n3] 56)) (w.heap.size) 56 #[.slice A0 x.parent.length n0,.slice A1 x.res.length n1,.slice A2 x.cap.length n2,.slice A3 x.sink.length n3]):=by
   have:=(Blk.new w 56 #[.slice A0 x.parent.length n0,.slice A1 x.res.length n1,.slice A2 x.cap.length n2,.slice A3 x.sink.length n3]).grows (Grows.refl _)
   exact hideIt (by simpa using this)
  replace ha:=hideIt (ha.keep G.out.keeps)
  replace hb:=hideIt (hb.keep G.out.keeps)
  replace hc:=hideIt (hc.keep G.out.keeps)
  replace hd:=hideIt (hd.keep G.out.keeps)
  replace hw:=hideIt (hw.keep G.out.keeps)
  go_enter Tryz.func116,Tryz.ntmps116
  have kS_0:(w.alloc (.cells #[.slice A0 x.parent.length n0,.slice A1 x.res.length n1,.slice A2 x.cap.length n2,.slice A3 x.sink.length n3] 56)).cell? ⟨w.heap.size,0,none⟩=some (.slice A0 x.parent.length n0):=S.out.cell 0
  have kS_1:(w.alloc (.cells #[.slice A0 x.parent.length n0,.slice A1 x.res.length n1,.slice A2 x.cap.length n2,.slice A3 x.sink.length n3] 56)).cell? ⟨w.heap.size,1,none⟩=some (.slice A1 x.res.length n1):=S.out.cell 1
  have kS_2:(w.alloc (.cells #[.slice A0 x.parent.length n0,.slice A1 x.res.length n1,.slice A2 x.cap.length n2,.slice A3 x.sink.length n3] 56)).cell? ⟨w.heap.size,2,none⟩=some (.slice A2 x.cap.length n2):=S.out.cell 2
  have kS_3:(w.alloc (.cells #[.slice A0 x.parent.length n0,.slice A1 x.res.length n1,.slice A2 x.cap.length n2,.slice A3 x.sink.length n3] 56)).cell? ⟨w.heap.size,3,none⟩=some (.slice A3 x.sink.length n3):=S.out.cell 3
  have fS:=S.out.frozen
  have lS:w.heap.size<(w.alloc (.cells #[.slice A0 x.parent.length n0,.slice A1 x.res.length n1,.slice A2 x.cap.length n2,.slice A3 x.sink.length n3] 56)).heap.size:=S.out.lt
  go_wp2_with fail
  refine (lengthI64_any _ ha.out).mono ?_
  rintro e wq ⟨rfl,rfl⟩
  go_wp2_with fail
  refine (within_any _ _ _ _).mono ?_
  rintro e wq ⟨rfl,rfl⟩
  rw [C1.out]
  go_wp2_with fail
  refine (lengthI64_any _ hb.out).mono ?_
  rintro e wq ⟨rfl,rfl⟩
  go_wp2_with fail
  refine (lengthI64_any _ hc.out).mono ?_
  rintro e wq ⟨rfl,rfl⟩
  go_wp2_with fail
  clear kS_0 kS_1 kS_2 kS_3 fS lS
  refine (isTree_any _ hw.out L2.out).mono ?_
  rintro e u1 ⟨rfl,g⟩
  replace G:=hideIt (G.out.trans g)
  replace ha:=hideIt (ha.out.keep g.keeps)
  replace hb:=hideIt (hb.out.keep g.keeps)
  replace hc:=hideIt (hc.out.keep g.keeps)
  replace hd:=hideIt (hd.out.keep g.keeps)
  replace hw:=hideIt (hw.out.keep g.keeps)
  replace S:=hideIt (S.out.grows g)
  rw [C4.out]
  clear g
  have kS_0:u1.cell? ⟨w.heap.size,0,none⟩=some (.slice A0 x.parent.length n0):=S.out.cell 0
  have kS_1:u1.cell? ⟨w.heap.size,1,none⟩=some (.slice A1 x.res.length n1):=S.out.cell 1
  have kS_2:u1.cell? ⟨w.heap.size,2,none⟩=some (.slice A2 x.cap.length n2):=S.out.cell 2
  have kS_3:u1.cell? ⟨w.heap.size,3,none⟩=some (.slice A3 x.sink.length n3):=S.out.cell 3
  have fS:=S.out.frozen
  have lS:w.heap.size<u1.heap.size:=S.out.lt
  go_wp2
  go_ret
  exact ⟨ret_bool (by rw [E.out,C1.out,C2.out,C3.out,C4.out];simp),G.out⟩
 have C4:=hideIt c4
 clear c4
 cases c5:wiB x.res 0 1000
 ·have C5:=hideIt c5
  clear c5
  have g:Grows w w:=Grows.refl w
  have G:Hid (Grows w (w.alloc (.cells #[.slice A0 x.parent.length n0,.slice A1 x.res.length n1,.slice A2 x.cap.length n2,.slice A3 x.sink.length n3] 56))):=hideIt ((Grows.refl w).alloc _)
  clear g
  have S:Hid (Blk (w.alloc (.cells #[.slice A0 x.parent.length n0,.slice A1 x.res.length n1,.slice A2 x.cap.length n2,.slice A3 x.sink.length n3] 56)) (w.heap.size) 56 #[.slice A0 x.parent.length n0,.slice A1 x.res.length n1,.slice A2 x.cap.length n2,.slice A3 x.sink.length n3]):=by
   have:=(Blk.new w 56 #[.slice A0 x.parent.length n0,.slice A1 x.res.length n1,.slice A2 x.cap.length n2,.slice A3 x.sink.length n3]).grows (Grows.refl _)
   exact hideIt (by simpa using this)
  replace ha:=hideIt (ha.keep G.out.keeps)
  replace hb:=hideIt (hb.keep G.out.keeps)
  replace hc:=hideIt (hc.keep G.out.keeps)
  replace hd:=hideIt (hd.keep G.out.keeps)
  replace hw:=hideIt (hw.keep G.out.keeps)
  go_enter Tryz.func116,Tryz.ntmps116
  have kS_0:(w.alloc (.cells #[.slice A0 x.parent.length n0,.slice A1 x.res.length n1,.slice A2 x.cap.length n2,.slice A3 x.sink.length n3] 56)).cell? ⟨w.heap.size,0,none⟩=some (.slice A0 x.parent.length n0):=S.out.cell 0
  have kS_1:(w.alloc (.cells #[.slice A0 x.parent.length n0,.slice A1 x.res.length n1,.slice A2 x.cap.length n2,.slice A3 x.sink.length n3] 56)).cell? ⟨w.heap.size,1,none⟩=some (.slice A1 x.res.length n1):=S.out.cell 1
  have kS_2:(w.alloc (.cells #[.slice A0 x.parent.length n0,.slice A1 x.res.length n1,.slice A2 x.cap.length n2,.slice A3 x.sink.length n3] 56)).cell? ⟨w.heap.size,2,none⟩=some (.slice A2 x.cap.length n2):=S.out.cell 2
  have kS_3:(w.alloc (.cells #[.slice A0 x.parent.length n0,.slice A1 x.res.length n1,.slice A2 x.cap.length n2,.slice A3 x.sink.length n3] 56)).cell? ⟨w.heap.size,3,none⟩=some (.slice A3 x.sink.length n3):=S.out.cell 3
  have fS:=S.out.frozen
  have lS:w.heap.size<(w.alloc (.cells #[.slice A0 x.parent.length n0,.slice A1 x.res.length n1,.slice A2 x.cap.length n2,.slice A3 x.sink.length n3] 56)).heap.size:=S.out.lt
  go_wp2_with fail
  refine (lengthI64_any _ ha.out).mono ?_
  rintro e wq ⟨rfl,rfl⟩
  go_wp2_with fail
  refine (within_any _ _ _ _).mono ?_
  rintro e wq ⟨rfl,rfl⟩
  rw [C1.out]
  go_wp2_with fail
  refine (lengthI64_any _ hb.out).mono ?_
  rintro e wq ⟨rfl,rfl⟩
  go_wp2_with fail
  refine (lengthI64_any _ hc.out).mono ?_
  rintro e wq ⟨rfl,rfl⟩
  go_wp2_with fail
  clear kS_0 kS_1 kS_2 kS_3 fS lS
  refine (isTree_any _ hw.out L2.out).mono ?_
  rintro e u1 ⟨rfl,g⟩
  replace G:=hideIt (G.out.trans g)
  replace ha:=hideIt (ha.out.keep g.keeps)
  replace hb:=hideIt (hb.out.keep g.keeps)
  replace hc:=hideIt (hc.out.keep g.keeps)
  replace hd:=hideIt (hd.out.keep g.keeps)
  replace hw:=hideIt (hw.out.keep g.keeps)
  replace S:=hideIt (S.out.grows g)
  rw [C4.out]
  clear g
  have kS_0:u1.cell? ⟨w.heap.size,0,none⟩=some (.slice A0 x.parent.length n0):=S.out.cell 0
  have kS_1:u1.cell? ⟨w.heap.size,1,none⟩=some (.slice A1 x.res.length n1):=S.out.cell 1
  have kS_2:u1.cell? ⟨w.heap.size,2,none⟩=some (.slice A2 x.cap.length n2):=S.out.cell 2
  have kS_3:u1.cell? ⟨w.heap.size,3,none⟩=some (.slice A3 x.sink.length n3):=S.out.cell 3
  have fS:=S.out.frozen
  have lS:w.heap.size<u1.heap.size:=S.out.lt
  go_wp2_with fail
  clear kS_0 kS_1 kS_2 kS_3 fS lS
  refine (areWithin_any _ _ _ hb.out).mono ?_
  rintro e u2 ⟨rfl,g⟩
  replace G:=hideIt (G.out.trans g)
  replace ha:=hideIt (ha.out.keep g.keeps)
  replace hb:=hideIt (hb.out.keep g.keeps)
  replace hc:=hideIt (hc.out.keep g.keeps)
  replace hd:=hideIt (hd.out.keep g.keeps)
  replace hw:=hideIt (hw.out.keep g.keeps)
  replace S:=hideIt (S.out.grows g)
  rw [C5.out]
  clear g
  have kS_0:u2.cell? ⟨w.heap.size,0,none⟩=some (.slice A0 x.parent.length n0):=S.out.cell 0
  have kS_1:u2.cell? ⟨w.heap.size,1,none⟩=some (.slice A1 x.res.length n1):=S.out.cell 1
  have kS_2:u2.cell? ⟨w.heap.size,2,none⟩=some (.slice A2 x.cap.length n2):=S.out.cell 2
  have kS_3:u2.cell? ⟨w.heap.size,3,none⟩=some (.slice A3 x.sink.length n3):=S.out.cell 3
  have fS:=S.out.frozen
  have lS:w.heap.size<u2.heap.size:=S.out.lt
  go_wp2
  go_ret
  exact ⟨ret_bool (by rw [E.out,C1.out,C2.out,C3.out,C4.out,C5.out];simp),G.out⟩
 have C5:=hideIt c5
 clear c5
 cases c6:wiB x.cap 0 500
 ·have C6:=hideIt c6
  clear c6
  have g:Grows w w:=Grows.refl w
  have G:Hid (Grows w (w.alloc (.cells #[.slice A0 x.parent.length n0,.slice A1 x.res.length n1,.slice A2 x.cap.length n2,.slice A3 x.sink.length n3] 56))):=hideIt ((Grows.refl w).alloc _)
  clear g
  have S:Hid (Blk (w.alloc (.cells #[.slice A0 x.parent.length n0,.slice A1 x.res.length n1,.slice A2 x.cap.length n2,.slice A3 x.sink.length n3] 56)) (w.heap.size) 56 #[.slice A0 x.parent.length n0,.slice A1 x.res.length n1,.slice A2 x.cap.length n2,.slice A3 x.sink.length n3]):=by
   have:=(Blk.new w 56 #[.slice A0 x.parent.length n0,.slice A1 x.res.length n1,.slice A2 x.cap.length n2,.slice A3 x.sink.length n3]).grows (Grows.refl _)
   exact hideIt (by simpa using this)
  replace ha:=hideIt (ha.keep G.out.keeps)
  replace hb:=hideIt (hb.keep G.out.keeps)
  replace hc:=hideIt (hc.keep G.out.keeps)
  replace hd:=hideIt (hd.keep G.out.keeps)
  replace hw:=hideIt (hw.keep G.out.keeps)
  go_enter Tryz.func116,Tryz.ntmps116
  have kS_0:(w.alloc (.cells #[.slice A0 x.parent.length n0,.slice A1 x.res.length n1,.slice A2 x.cap.length n2,.slice A3 x.sink.length n3] 56)).cell? ⟨w.heap.size,0,none⟩=some (.slice A0 x.parent.length n0):=S.out.cell 0
  have kS_1:(w.alloc (.cells #[.slice A0 x.parent.length n0,.slice A1 x.res.length n1,.slice A2 x.cap.length n2,.slice A3 x.sink.length n3] 56)).cell? ⟨w.heap.size,1,none⟩=some (.slice A1 x.res.length n1):=S.out.cell 1
  have kS_2:(w.alloc (.cells #[.slice A0 x.parent.length n0,.slice A1 x.res.length n1,.slice A2 x.cap.length n2,.slice A3 x.sink.length n3] 56)).cell? ⟨w.heap.size,2,none⟩=some (.slice A2 x.cap.length n2):=S.out.cell 2
  have kS_3:(w.alloc (.cells #[.slice A0 x.parent.length n0,.slice A1 x.res.length n1,.slice A2 x.cap.length n2,.slice A3 x.sink.length n3] 56)).cell? ⟨w.heap.size,3,none⟩=some (.slice A3 x.sink.length n3):=S.out.cell 3
  have fS:=S.out.frozen
  have lS:w.heap.size<(w.alloc (.cells #[.slice A0 x.parent.length n0,.slice A1 x.res.length n1,.slice A2 x.cap.length n2,.slice A3 x.sink.length n3] 56)).heap.size:=S.out.lt
  go_wp2_with fail
  refine (lengthI64_any _ ha.out).mono ?_
  rintro e wq ⟨rfl,rfl⟩
  go_wp2_with fail
  refine (within_any _ _ _ _).mono ?_
  rintro e wq ⟨rfl,rfl⟩
  rw [C1.out]
  go_wp2_with fail
  refine (lengthI64_any _ hb.out).mono ?_
  rintro e wq ⟨rfl,rfl⟩
  go_wp2_with fail
  refine (lengthI64_any _ hc.out).mono ?_
  rintro e wq ⟨rfl,rfl⟩
  go_wp2_with fail
  clear kS_0 kS_1 kS_2 kS_3 fS lS
  refine (isTree_any _ hw.out L2.out).mono ?_
  rintro e u1 ⟨rfl,g⟩
  replace G:=hideIt (G.out.trans g)
  replace ha:=hideIt (ha.out.keep g.keeps)
  replace hb:=hideIt (hb.out.keep g.keeps)
  replace hc:=hideIt (hc.out.keep g.keeps)
  replace hd:=hideIt (hd.out.keep g.keeps)
  replace hw:=hideIt (hw.out.keep g.keeps)
  replace S:=hideIt (S.out.grows g)
  rw [C4.out]
  clear g
  have kS_0:u1.cell? ⟨w.heap.size,0,none⟩=some (.slice A0 x.parent.length n0):=S.out.cell 0
  have kS_1:u1.cell? ⟨w.heap.size,1,none⟩=some (.slice A1 x.res.length n1):=S.out.cell 1
  have kS_2:u1.cell? ⟨w.heap.size,2,none⟩=some (.slice A2 x.cap.length n2):=S.out.cell 2
  have kS_3:u1.cell? ⟨w.heap.size,3,none⟩=some (.slice A3 x.sink.length n3):=S.out.cell 3
  have fS:=S.out.frozen
  have lS:w.heap.size<u1.heap.size:=S.out.lt
  go_wp2_with fail
  clear kS_0 kS_1 kS_2 kS_3 fS lS
  refine (areWithin_any _ _ _ hb.out).mono ?_
  rintro e u2 ⟨rfl,g⟩
  replace G:=hideIt (G.out.trans g)
  replace ha:=hideIt (ha.out.keep g.keeps)
  replace hb:=hideIt (hb.out.keep g.keeps)
  replace hc:=hideIt (hc.out.keep g.keeps)
  replace hd:=hideIt (hd.out.keep g.keeps)
  replace hw:=hideIt (hw.out.keep g.keeps)
  replace S:=hideIt (S.out.grows g)
  rw [C5.out]
  clear g
  have kS_0:u2.cell? ⟨w.heap.size,0,none⟩=some (.slice A0 x.parent.length n0):=S.out.cell 0
  have kS_1:u2.cell? ⟨w.heap.size,1,none⟩=some (.slice A1 x.res.length n1):=S.out.cell 1
  have kS_2:u2.cell? ⟨w.heap.size,2,none⟩=some (.slice A2 x.cap.length n2):=S.out.cell 2
  have kS_3:u2.cell? ⟨w.heap.size,3,none⟩=some (.slice A3 x.sink.length n3):=S.out.cell 3
  have fS:=S.out.frozen
  have lS:w.heap.size<u2.heap.size:=S.out.lt
  go_wp2_with fail
  clear kS_0 kS_1 kS_2 kS_3 fS lS
  refine (areWithin_any _ _ _ hc.out).mono ?_
  rintro e u3 ⟨rfl,g⟩
  replace G:=hideIt (G.out.trans g)
  replace ha:=hideIt (ha.out.keep g.keeps)
  replace hb:=hideIt (hb.out.keep g.keeps)
  replace hc:=hideIt (hc.out.keep g.keeps)
  replace hd:=hideIt (hd.out.keep g.keeps)
  replace hw:=hideIt (hw.out.keep g.keeps)
  replace S:=hideIt (S.out.grows g)
  rw [C6.out]
  clear g
  have kS_0:u3.cell? ⟨w.heap.size,0,none⟩=some (.slice A0 x.parent.length n0):=S.out.cell 0
  have kS_1:u3.cell? ⟨w.heap.size,1,none⟩=some (.slice A1 x.res.length n1):=S.out.cell 1
  have kS_2:u3.cell? ⟨w.heap.size,2,none⟩=some (.slice A2 x.cap.length n2):=S.out.cell 2
  have kS_3:u3.cell? ⟨w.heap.size,3,none⟩=some (.slice A3 x.sink.length n3):=S.out.cell 3
  have fS:=S.out.frozen
  have lS:w.heap.size<u3.heap.size:=S.out.lt
  go_wp2
  go_ret
  exact ⟨ret_bool (by rw [E.out,C1.out,C2.out,C3.out,C4.out,C5.out,C6.out];simp),G.out⟩
 have C6:=hideIt c6
 clear c6
 cases c7:decide ((x.sink.length:Int)=sinks)
 ·have C7:=hideIt c7
  have e7:((x.sink.length:Int)==sinks)=false:=by rw [beq_eq_false_iff_ne];have:=of_decide_eq_false c7;omega
  clear c7
  have g:Grows w w:=Grows.refl w
  have G:Hid (Grows w (w.alloc (.cells #[.slice A0 x.parent.length n0,.slice A1 x.res.length n1,.slice A2 x.cap.length n2,.slice A3 x.sink.length n3] 56))):=hideIt ((Grows.refl w).alloc _)
  clear g
  have S:Hid (Blk (w.alloc (.cells #[.slice A0 x.parent.length n0,.slice A1 x.res.length n1,.slice A2 x.cap.length n2,.slice A3 x.sink.length n3] 56)) (w.heap.size) 56 #[.slice A0 x.parent.length n0,.slice A1 x.res.length n1,.slice A2 x.cap.length n2,.slice A3 x.sink.length n3]):=by
   have:=(Blk.new w 56 #[.slice A0 x.parent.length n0,.slice A1 x.res.length n1,.slice A2 x.cap.length n2,.slice A3 x.sink.length n3]).grows (Grows.refl _)
   exact hideIt (by simpa using this)
  replace ha:=hideIt (ha.keep G.out.keeps)
  replace hb:=hideIt (hb.keep G.out.keeps)
  replace hc:=hideIt (hc.keep G.out.keeps)
  replace hd:=hideIt (hd.keep G.out.keeps)
  replace hw:=hideIt (hw.keep G.out.keeps)
  go_enter Tryz.func116,Tryz.ntmps116
  have kS_0:(w.alloc (.cells #[.slice A0 x.parent.length n0,.slice A1 x.res.length n1,.slice A2 x.cap.length n2,.slice A3 x.sink.length n3] 56)).cell? ⟨w.heap.size,0,none⟩=some (.slice A0 x.parent.length n0):=S.out.cell 0
  have kS_1:(w.alloc (.cells #[.slice A0 x.parent.length n0,.slice A1 x.res.length n1,.slice A2 x.cap.length n2,.slice A3 x.sink.length n3] 56)).cell? ⟨w.heap.size,1,none⟩=some (.slice A1 x.res.length n1):=S.out.cell 1
  have kS_2:(w.alloc (.cells #[.slice A0 x.parent.length n0,.slice A1 x.res.length n1,.slice A2 x.cap.length n2,.slice A3 x.sink.length n3] 56)).cell? ⟨w.heap.size,2,none⟩=some (.slice A2 x.cap.length n2):=S.out.cell 2
  have kS_3:(w.alloc (.cells #[.slice A0 x.parent.length n0,.slice A1 x.res.length n1,.slice A2 x.cap.length n2,.slice A3 x.sink.length n3] 56)).cell? ⟨w.heap.size,3,none⟩=some (.slice A3 x.sink.length n3):=S.out.cell 3
  have fS:=S.out.frozen
  have lS:w.heap.size<(w.alloc (.cells #[.slice A0 x.parent.length n0,.slice A1 x.res.length n1,.slice A2 x.cap.length n2,.slice A3 x.sink.length n3] 56)).heap.size:=S.out.lt
  go_wp2_with fail
  refine (lengthI64_any _ ha.out).mono ?_
  rintro e wq ⟨rfl,rfl⟩
  go_wp2_with fail
  refine (within_any _ _ _ _).mono ?_
  rintro e wq ⟨rfl,rfl⟩
  rw [C1.out]
  go_wp2_with fail
  refine (lengthI64_any _ hb.out).mono ?_
  rintro e wq ⟨rfl,rfl⟩
  go_wp2_with fail
  refine (lengthI64_any _ hc.out).mono ?_
  rintro e wq ⟨rfl,rfl⟩
  go_wp2_with fail
  clear kS_0 kS_1 kS_2 kS_3 fS lS
  refine (isTree_any _ hw.out L2.out).mono ?_
  rintro e u1 ⟨rfl,g⟩
  replace G:=hideIt (G.out.trans g)
  replace ha:=hideIt (ha.out.keep g.keeps)
  replace hb:=hideIt (hb.out.keep g.keeps)
  replace hc:=hideIt (hc.out.keep g.keeps)
  replace hd:=hideIt (hd.out.keep g.keeps)
  replace hw:=hideIt (hw.out.keep g.keeps)
  replace S:=hideIt (S.out.grows g)
  rw [C4.out]
  clear g
  have kS_0:u1.cell? ⟨w.heap.size,0,none⟩=some (.slice A0 x.parent.length n0):=S.out.cell 0
  have kS_1:u1.cell? ⟨w.heap.size,1,none⟩=some (.slice A1 x.res.length n1):=S.out.cell 1
  have kS_2:u1.cell? ⟨w.heap.size,2,none⟩=some (.slice A2 x.cap.length n2):=S.out.cell 2
  have kS_3:u1.cell? ⟨w.heap.size,3,none⟩=some (.slice A3 x.sink.length n3):=S.out.cell 3
  have fS:=S.out.frozen
  have lS:w.heap.size<u1.heap.size:=S.out.lt
  go_wp2_with fail
  clear kS_0 kS_1 kS_2 kS_3 fS lS
  refine (areWithin_any _ _ _ hb.out).mono ?_
  rintro e u2 ⟨rfl,g⟩
  replace G:=hideIt (G.out.trans g)
  replace ha:=hideIt (ha.out.keep g.keeps)
  replace hb:=hideIt (hb.out.keep g.keeps)
  replace hc:=hideIt (hc.out.keep g.keeps)
  replace hd:=hideIt (hd.out.keep g.keeps)
  replace hw:=hideIt (hw.out.keep g.keeps)
  replace S:=hideIt (S.out.grows g)
  rw [C5.out]
  clear g
  have kS_0:u2.cell? ⟨w.heap.size,0,none⟩=some (.slice A0 x.parent.length n0):=S.out.cell 0
  have kS_1:u2.cell? ⟨w.heap.size,1,none⟩=some (.slice A1 x.res.length n1):=S.out.cell 1
  have kS_2:u2.cell? ⟨w.heap.size,2,none⟩=some (.slice A2 x.cap.length n2):=S.out.cell 2
  have kS_3:u2.cell? ⟨w.heap.size,3,none⟩=some (.slice A3 x.sink.length n3):=S.out.cell 3
  have fS:=S.out.frozen
  have lS:w.heap.size<u2.heap.size:=S.out.lt
  go_wp2_with fail
  clear kS_0 kS_1 kS_2 kS_3 fS lS
  refine (areWithin_any _ _ _ hc.out).mono ?_
  rintro e u3 ⟨rfl,g⟩
  replace G:=hideIt (G.out.trans g)
  replace ha:=hideIt (ha.out.keep g.keeps)
  replace hb:=hideIt (hb.out.keep g.keeps)
  replace hc:=hideIt (hc.out.keep g.keeps)
  replace hd:=hideIt (hd.out.keep g.keeps)
  replace hw:=hideIt (hw.out.keep g.keeps)
  replace S:=hideIt (S.out.grows g)
  rw [C6.out]
  clear g
  have kS_0:u3.cell? ⟨w.heap.size,0,none⟩=some (.slice A0 x.parent.length n0):=S.out.cell 0
  have kS_1:u3.cell? ⟨w.heap.size,1,none⟩=some (.slice A1 x.res.length n1):=S.out.cell 1
  have kS_2:u3.cell? ⟨w.heap.size,2,none⟩=some (.slice A2 x.cap.length n2):=S.out.cell 2
  have kS_3:u3.cell? ⟨w.heap.size,3,none⟩=some (.slice A3 x.sink.length n3):=S.out.cell 3
  have fS:=S.out.frozen
  have lS:w.heap.size<u3.heap.size:=S.out.lt
  go_wp2_with fail
  refine (lengthI64_any _ hd.out).mono ?_
  rintro e wq ⟨rfl,rfl⟩
  go_wp2
  go_ret
  exact ⟨ret_bool (by rw [E.out,C1.out,C2.out,C3.out,C4.out,C5.out,C6.out,C7.out];simp),G.out⟩
 have C7:=hideIt c7
 have e7:((x.sink.length:Int)==sinks)=true:=by rw [beq_iff_eq];have:=of_decide_eq_true c7;omega
 clear c7
 cases c8:wiB x.sink 0 ((x.parent.length:Int) - 1)
 ·have C8:=hideIt c8
  clear c8
  have g:Grows w w:=Grows.refl w
  have G:Hid (Grows w (w.alloc (.cells #[.slice A0 x.parent.length n0,.slice A1 x.res.length n1,.slice A2 x.cap.length n2,.slice A3 x.sink.length n3] 56))):=hideIt ((Grows.refl w).alloc _)
  clear g
  have S:Hid (Blk (w.alloc (.cells #[.slice A0 x.parent.length n0,.slice A1 x.res.length n1,.slice A2 x.cap.length n2,.slice A3 x.sink.length n3] 56)) (w.heap.size) 56 #[.slice A0 x.parent.length n0,.slice A1 x.res.length n1,.slice A2 x.cap.length n2,.slice A3 x.sink.length n3]):=by
   have:=(Blk.new w 56 #[.slice A0 x.parent.length n0,.slice A1 x.res.length n1,.slice A2 x.cap.length n2,.slice A3 x.sink.length n3]).grows (Grows.refl _)
   exact hideIt (by simpa using this)
  replace ha:=hideIt (ha.keep G.out.keeps)
  replace hb:=hideIt (hb.keep G.out.keeps)
  replace hc:=hideIt (hc.keep G.out.keeps)
  replace hd:=hideIt (hd.keep G.out.keeps)
  replace hw:=hideIt (hw.keep G.out.keeps)
  go_enter Tryz.func116,Tryz.ntmps116
  have kS_0:(w.alloc (.cells #[.slice A0 x.parent.length n0,.slice A1 x.res.length n1,.slice A2 x.cap.length n2,.slice A3 x.sink.length n3] 56)).cell? ⟨w.heap.size,0,none⟩=some (.slice A0 x.parent.length n0):=S.out.cell 0
  have kS_1:(w.alloc (.cells #[.slice A0 x.parent.length n0,.slice A1 x.res.length n1,.slice A2 x.cap.length n2,.slice A3 x.sink.length n3] 56)).cell? ⟨w.heap.size,1,none⟩=some (.slice A1 x.res.length n1):=S.out.cell 1
  have kS_2:(w.alloc (.cells #[.slice A0 x.parent.length n0,.slice A1 x.res.length n1,.slice A2 x.cap.length n2,.slice A3 x.sink.length n3] 56)).cell? ⟨w.heap.size,2,none⟩=some (.slice A2 x.cap.length n2):=S.out.cell 2
  have kS_3:(w.alloc (.cells #[.slice A0 x.parent.length n0,.slice A1 x.res.length n1,.slice A2 x.cap.length n2,.slice A3 x.sink.length n3] 56)).cell? ⟨w.heap.size,3,none⟩=some (.slice A3 x.sink.length n3):=S.out.cell 3
  have fS:=S.out.frozen
  have lS:w.heap.size<(w.alloc (.cells #[.slice A0 x.parent.length n0,.slice A1 x.res.length n1,.slice A2 x.cap.length n2,.slice A3 x.sink.length n3] 56)).heap.size:=S.out.lt
  go_wp2_with fail
  refine (lengthI64_any _ ha.out).mono ?_
  rintro e wq ⟨rfl,rfl⟩
  go_wp2_with fail
  refine (within_any _ _ _ _).mono ?_
  rintro e wq ⟨rfl,rfl⟩
  rw [C1.out]
  go_wp2_with fail
  refine (lengthI64_any _ hb.out).mono ?_
  rintro e wq ⟨rfl,rfl⟩
  go_wp2_with fail
  refine (lengthI64_any _ hc.out).mono ?_
  rintro e wq ⟨rfl,rfl⟩
  go_wp2_with fail
  clear kS_0 kS_1 kS_2 kS_3 fS lS
  refine (isTree_any _ hw.out L2.out).mono ?_
  rintro e u1 ⟨rfl,g⟩
  replace G:=hideIt (G.out.trans g)
  replace ha:=hideIt (ha.out.keep g.keeps)
  replace hb:=hideIt (hb.out.keep g.keeps)
  replace hc:=hideIt (hc.out.keep g.keeps)
  replace hd:=hideIt (hd.out.keep g.keeps)
  replace hw:=hideIt (hw.out.keep g.keeps)
  replace S:=hideIt (S.out.grows g)
  rw [C4.out]
  clear g
  have kS_0:u1.cell? ⟨w.heap.size,0,none⟩=some (.slice A0 x.parent.length n0):=S.out.cell 0
  have kS_1:u1.cell? ⟨w.heap.size,1,none⟩=some (.slice A1 x.res.length n1):=S.out.cell 1
  have kS_2:u1.cell? ⟨w.heap.size,2,none⟩=some (.slice A2 x.cap.length n2):=S.out.cell 2
  have kS_3:u1.cell? ⟨w.heap.size,3,none⟩=some (.slice A3 x.sink.length n3):=S.out.cell 3
  have fS:=S.out.frozen
  have lS:w.heap.size<u1.heap.size:=S.out.lt
  go_wp2_with fail
  clear kS_0 kS_1 kS_2 kS_3 fS lS
  refine (areWithin_any _ _ _ hb.out).mono ?_
  rintro e u2 ⟨rfl,g⟩
  replace G:=hideIt (G.out.trans g)
  replace ha:=hideIt (ha.out.keep g.keeps)
  replace hb:=hideIt (hb.out.keep g.keeps)
  replace hc:=hideIt (hc.out.keep g.keeps)
  replace hd:=hideIt (hd.out.keep g.keeps)
  replace hw:=hideIt (hw.out.keep g.keeps)
  replace S:=hideIt (S.out.grows g)
  rw [C5.out]
  clear g
  have kS_0:u2.cell? ⟨w.heap.size,0,none⟩=some (.slice A0 x.parent.length n0):=S.out.cell 0
  have kS_1:u2.cell? ⟨w.heap.size,1,none⟩=some (.slice A1 x.res.length n1):=S.out.cell 1
  have kS_2:u2.cell? ⟨w.heap.size,2,none⟩=some (.slice A2 x.cap.length n2):=S.out.cell 2
  have kS_3:u2.cell? ⟨w.heap.size,3,none⟩=some (.slice A3 x.sink.length n3):=S.out.cell 3
  have fS:=S.out.frozen
  have lS:w.heap.size<u2.heap.size:=S.out.lt
  go_wp2_with fail
  clear kS_0 kS_1 kS_2 kS_3 fS lS
  refine (areWithin_any _ _ _ hc.out).mono ?_
  rintro e u3 ⟨rfl,g⟩
  replace G:=hideIt (G.out.trans g)
  replace ha:=hideIt (ha.out.keep g.keeps)
  replace hb:=hideIt (hb.out.keep g.keeps)
  replace hc:=hideIt (hc.out.keep g.keeps)
  replace hd:=hideIt (hd.out.keep g.keeps)
  replace hw:=hideIt (hw.out.keep g.keeps)
  replace S:=hideIt (S.out.grows g)
  rw [C6.out]
  clear g
  have kS_0:u3.cell? ⟨w.heap.size,0,none⟩=some (.slice A0 x.parent.length n0):=S.out.cell 0
  have kS_1:u3.cell? ⟨w.heap.size,1,none⟩=some (.slice A1 x.res.length n1):=S.out.cell 1
  have kS_2:u3.cell? ⟨w.heap.size,2,none⟩=some (.slice A2 x.cap.length n2):=S.out.cell 2
  have kS_3:u3.cell? ⟨w.heap.size,3,none⟩=some (.slice A3 x.sink.length n3):=S.out.cell 3
  have fS:=S.out.frozen
  have lS:w.heap.size<u3.heap.size:=S.out.lt
  go_wp2_with fail
  refine (lengthI64_any _ hd.out).mono ?_
  rintro e wq ⟨rfl,rfl⟩
  go_wp2_with fail
  clear kS_0 kS_1 kS_2 kS_3 fS lS
  refine (areWithin_any _ _ _ hd.out).mono ?_
  rintro e u4 ⟨rfl,g⟩
  replace G:=hideIt (G.out.trans g)
  replace ha:=hideIt (ha.out.keep g.keeps)
  replace hb:=hideIt (hb.out.keep g.keeps)
  replace hc:=hideIt (hc.out.keep g.keeps)
  replace hd:=hideIt (hd.out.keep g.keeps)
  replace hw:=hideIt (hw.out.keep g.keeps)
  replace S:=hideIt (S.out.grows g)
  rw [C8.out]
  clear g
  have kS_0:u4.cell? ⟨w.heap.size,0,none⟩=some (.slice A0 x.parent.length n0):=S.out.cell 0
  have kS_1:u4.cell? ⟨w.heap.size,1,none⟩=some (.slice A1 x.res.length n1):=S.out.cell 1
  have kS_2:u4.cell? ⟨w.heap.size,2,none⟩=some (.slice A2 x.cap.length n2):=S.out.cell 2
  have kS_3:u4.cell? ⟨w.heap.size,3,none⟩=some (.slice A3 x.sink.length n3):=S.out.cell 3
  have fS:=S.out.frozen
  have lS:w.heap.size<u4.heap.size:=S.out.lt
  go_wp2
  go_ret
  exact ⟨ret_bool (by rw [E.out,C1.out,C2.out,C3.out,C4.out,C5.out,C6.out,C7.out,C8.out];simp),G.out⟩
 have C8:=hideIt c8
 clear c8
 have g:Grows w w:=Grows.refl w
 have G:Hid (Grows w (w.alloc (.cells #[.slice A0 x.parent.length n0,.slice A1 x.res.length n1,.slice A2 x.cap.length n2,.slice A3 x.sink.length n3] 56))):=hideIt ((Grows.refl w).alloc _)
 clear g
 have S:Hid (Blk (w.alloc (.cells #[.slice A0 x.parent.length n0,.slice A1 x.res.length n1,.slice A2 x.cap.length n2,.slice A3 x.sink.length n3] 56)) (w.heap.size) 56 #[.slice A0 x.parent.length n0,.slice A1 x.res.length n1,.slice A2 x.cap.length n2,.slice A3 x.sink.length n3]):=by
  have:=(Blk.new w 56 #[.slice A0 x.parent.length n0,.slice A1 x.res.length n1,.slice A2 x.cap.length n2,.slice A3 x.sink.length n3]).grows (Grows.refl _)
  exact hideIt (by simpa using this)
 replace ha:=hideIt (ha.keep G.out.keeps)
 replace hb:=hideIt (hb.keep G.out.keeps)
 replace hc:=hideIt (hc.keep G.out.keeps)
 replace hd:=hideIt (hd.keep G.out.keeps)
 replace hw:=hideIt (hw.keep G.out.keeps)
 go_enter Tryz.func116,Tryz.ntmps116
 have kS_0:(w.alloc (.cells #[.slice A0 x.parent.length n0,.slice A1 x.res.length n1,.slice A2 x.cap.length n2,.slice A3 x.sink.length n3] 56)).cell? ⟨w.heap.size,0,none⟩=some (.slice A0 x.parent.length n0):=S.out.cell 0
 have kS_1:(w.alloc (.cells #[.slice A0 x.parent.length n0,.slice A1 x.res.length n1,.slice A2 x.cap.length n2,.slice A3 x.sink.length n3] 56)).cell? ⟨w.heap.size,1,none⟩=some (.slice A1 x.res.length n1):=S.out.cell 1
 have kS_2:(w.alloc (.cells #[.slice A0 x.parent.length n0,.slice A1 x.res.length n1,.slice A2 x.cap.length n2,.slice A3 x.sink.length n3] 56)).cell? ⟨w.heap.size,2,none⟩=some (.slice A2 x.cap.length n2):=S.out.cell 2
 have kS_3:(w.alloc (.cells #[.slice A0 x.parent.length n0,.slice A1 x.res.length n1,.slice A2 x.cap.length n2,.slice A3 x.sink.length n3] 56)).cell? ⟨w.heap.size,3,none⟩=some (.slice A3 x.sink.length n3):=S.out.cell 3
 have fS:=S.out.frozen
 have lS:w.heap.size<(w.alloc (.cells #[.slice A0 x.parent.length n0,.slice A1 x.res.length n1,.slice A2 x.cap.length n2,.slice A3 x.sink.length n3] 56)).heap.size:=S.out.lt
 go_wp2_with fail
 refine (lengthI64_any _ ha.out).mono ?_
 rintro e wq ⟨rfl,rfl⟩
 go_wp2_with fail
 refine (within_any _ _ _ _).mono ?_
 rintro e wq ⟨rfl,rfl⟩
 rw [C1.out]
 go_wp2_with fail
 refine (lengthI64_any _ hb.out).mono ?_
 rintro e wq ⟨rfl,rfl⟩
 go_wp2_with fail
 refine (lengthI64_any _ hc.out).mono ?_
 rintro e wq ⟨rfl,rfl⟩
 go_wp2_with fail
 clear kS_0 kS_1 kS_2 kS_3 fS lS
 refine (isTree_any _ hw.out L2.out).mono ?_
 rintro e u1 ⟨rfl,g⟩
 replace G:=hideIt (G.out.trans g)
 replace ha:=hideIt (ha.out.keep g.keeps)
 replace hb:=hideIt (hb.out.keep g.keeps)
 replace hc:=hideIt (hc.out.keep g.keeps)
 replace hd:=hideIt (hd.out.keep g.keeps)
 replace hw:=hideIt (hw.out.keep g.keeps)
 replace S:=hideIt (S.out.grows g)
 rw [C4.out]
 clear g
 have kS_0:u1.cell? ⟨w.heap.size,0,none⟩=some (.slice A0 x.parent.length n0):=S.out.cell 0
 have kS_1:u1.cell? ⟨w.heap.size,1,none⟩=some (.slice A1 x.res.length n1):=S.out.cell 1
 have kS_2:u1.cell? ⟨w.heap.size,2,none⟩=some (.slice A2 x.cap.length n2):=S.out.cell 2
 have kS_3:u1.cell? ⟨w.heap.size,3,none⟩=some (.slice A3 x.sink.length n3):=S.out.cell 3
 have fS:=S.out.frozen
 have lS:w.heap.size<u1.heap.size:=S.out.lt
 go_wp2_with fail
 clear kS_0 kS_1 kS_2 kS_3 fS lS
 refine (areWithin_any _ _ _ hb.out).mono ?_
 rintro e u2 ⟨rfl,g⟩
 replace G:=hideIt (G.out.trans g)
 replace ha:=hideIt (ha.out.keep g.keeps)
 replace hb:=hideIt (hb.out.keep g.keeps)
 replace hc:=hideIt (hc.out.keep g.keeps)
 replace hd:=hideIt (hd.out.keep g.keeps)
 replace hw:=hideIt (hw.out.keep g.keeps)
 replace S:=hideIt (S.out.grows g)
 rw [C5.out]
 clear g
 have kS_0:u2.cell? ⟨w.heap.size,0,none⟩=some (.slice A0 x.parent.length n0):=S.out.cell 0
 have kS_1:u2.cell? ⟨w.heap.size,1,none⟩=some (.slice A1 x.res.length n1):=S.out.cell 1
 have kS_2:u2.cell? ⟨w.heap.size,2,none⟩=some (.slice A2 x.cap.length n2):=S.out.cell 2
 have kS_3:u2.cell? ⟨w.heap.size,3,none⟩=some (.slice A3 x.sink.length n3):=S.out.cell 3
 have fS:=S.out.frozen
 have lS:w.heap.size<u2.heap.size:=S.out.lt
 go_wp2_with fail
 clear kS_0 kS_1 kS_2 kS_3 fS lS
 refine (areWithin_any _ _ _ hc.out).mono ?_
 rintro e u3 ⟨rfl,g⟩
 replace G:=hideIt (G.out.trans g)
 replace ha:=hideIt (ha.out.keep g.keeps)
 replace hb:=hideIt (hb.out.keep g.keeps)
 replace hc:=hideIt (hc.out.keep g.keeps)
 replace hd:=hideIt (hd.out.keep g.keeps)
 replace hw:=hideIt (hw.out.keep g.keeps)
 replace S:=hideIt (S.out.grows g)
 rw [C6.out]
 clear g
 have kS_0:u3.cell? ⟨w.heap.size,0,none⟩=some (.slice A0 x.parent.length n0):=S.out.cell 0
 have kS_1:u3.cell? ⟨w.heap.size,1,none⟩=some (.slice A1 x.res.length n1):=S.out.cell 1
 have kS_2:u3.cell? ⟨w.heap.size,2,none⟩=some (.slice A2 x.cap.length n2):=S.out.cell 2
 have kS_3:u3.cell? ⟨w.heap.size,3,none⟩=some (.slice A3 x.sink.length n3):=S.out.cell 3
 have fS:=S.out.frozen
 have lS:w.heap.size<u3.heap.size:=S.out.lt
 go_wp2_with fail
 refine (lengthI64_any _ hd.out).mono ?_
 rintro e wq ⟨rfl,rfl⟩
 go_wp2_with fail
 clear kS_0 kS_1 kS_2 kS_3 fS lS
 refine (areWithin_any _ _ _ hd.out).mono ?_
 rintro e u4 ⟨rfl,g⟩
 replace G:=hideIt (G.out.trans g)
 replace ha:=hideIt (ha.out.keep g.keeps)
 replace hb:=hideIt (hb.out.keep g.keeps)
 replace hc:=hideIt (hc.out.keep g.keeps)
 replace hd:=hideIt (hd.out.keep g.keeps)
 replace hw:=hideIt (hw.out.keep g.keeps)
 replace S:=hideIt (S.out.grows g)
 rw [C8.out]
 clear g
 have kS_0:u4.cell? ⟨w.heap.size,0,none⟩=some (.slice A0 x.parent.length n0):=S.out.cell 0
 have kS_1:u4.cell? ⟨w.heap.size,1,none⟩=some (.slice A1 x.res.length n1):=S.out.cell 1
 have kS_2:u4.cell? ⟨w.heap.size,2,none⟩=some (.slice A2 x.cap.length n2):=S.out.cell 2
 have kS_3:u4.cell? ⟨w.heap.size,3,none⟩=some (.slice A3 x.sink.length n3):=S.out.cell 3
 have fS:=S.out.frozen
 have lS:w.heap.size<u4.heap.size:=S.out.lt
 go_wp2
 go_ret
 exact ⟨ret_bool (by rw [E.out,C1.out,C2.out,C3.out,C4.out,C5.out,C6.out,C7.out,C8.out];simp),G.out⟩
end Go.Proofs.YtlnpefiipdkafaaGreatDoor
/-
  The contract of the reference's IsWire.
-/
namespace Go.Proofs.YtlnpefiipdkafaaGreatDoor
open Go.RowKit
theorem wire_no {x:WireD} {sinks:Int} (h:¬(1≤x.parent.length∧x.parent.length≤8)∨x.res.length≠x.parent.length∨x.cap.length≠x.parent.length∨treeB x.parent x.res=false∨wiB x.res 0 1000=false∨wiB x.cap 0 500=false∨(x.sink.length:Int)≠sinks∨wiB x.sink 0 ((x.parent.length:Int) - 1)=false):wireB x sinks=false:=by
 cases hb:wireB x sinks with
 | false=>rfl
 | true =>
  simp only [wireB,Bool.and_eq_true,decide_eq_true_eq] at hb
  obtain ⟨⟨⟨⟨⟨⟨⟨h1,h2⟩,h3⟩,h4⟩,h5⟩,h6⟩,h7⟩,h8⟩:=hb
  have:=inB_true h1
  rcases h with h|h|h|h|h|h|h|h
  ·omega
  ·exact absurd h2 h
  ·exact absurd h3 h
  ·rw [h4] at h;cases h
  ·rw [h5] at h;cases h
  ·rw [h6] at h;cases h
  ·exact absurd h7 h
  ·rw [h8] at h;cases h
theorem wire_yes {x:WireD} {sinks:Int} (h1:1≤x.parent.length∧x.parent.length≤8) (h2:x.res.length=x.parent.length) (h3:x.cap.length=x.parent.length) (h4:treeB x.parent x.res=true) (h5:wiB x.res 0 1000=true) (h6:wiB x.cap 0 500=true)
  (h7:(x.sink.length:Int)=sinks) (h8:wiB x.sink 0 ((x.parent.length:Int) - 1)=true):wireB x sinks=true:=by
 simp only [wireB,Bool.and_eq_true,decide_eq_true_eq]
 exact ⟨⟨⟨⟨⟨⟨⟨inB_mk (by omega) (by omega),h2⟩,h3⟩,h4⟩,h5⟩,h6⟩,h7⟩,h8⟩
set_option maxHeartbeats 4000000 in
theorem sIsWire_any {a b c d:Value} {x:WireD} {sinks:Int} (w:World) (h:RWire w [a,b,c,d] x) :
  Calls Tryz.prog 117 #[.agg #[a,b,c,d],.int .i64 sinks] w fun e w'=>e=.returned (.bool (wireB x sinks))∧Grows w w':=by
 obtain ⟨ha,hb,hc,hd⟩:=h.open_
 have l0:=ha.len
 have l1:=hb.len
 have l2:=hc.len
 have l3:=hd.len
 obtain ⟨A0,n0,rfl,-,-,hxa⟩:=ha.form
 obtain ⟨A1,n1,rfl,-,-,hxb⟩:=hb.form
 obtain ⟨A2,n2,rfl,-,-,hxc⟩:=hc.form
 obtain ⟨A3,n3,rfl,-,-,hxd⟩:=hd.form
 have HA:=hideIt hxa
 have HB:=hideIt hxb
 have HC:=hideIt hxc
 have HD:=hideIt hxd
 have GA:Hid (∀(A0 A1 A2 A3:Option Addr),Grows w (w.alloc (.cells #[.slice A0 x.parent.length n0,.slice A1 x.res.length n1,.slice A2 x.cap.length n2,.slice A3 x.sink.length n3] 56))):=fun _ _ _ _=>(Grows.refl w).alloc _
 clear ha hb hc hd hxa hxb hxc hxd h
 by_cases q1:(x.parent.length:Int)<1
 ·have Q:=hideIt q1
  go_enter Tryz.func117,Tryz.ntmps117
  go_wp2
  go_ret
  exact ⟨ret_bool (wire_no (.inl (by have:=Q.out;omega))).symm,GA.out _ _ _ _⟩
 by_cases q2:(8:Int)<x.parent.length
 ·have Q:=hideIt q2
  go_enter Tryz.func117,Tryz.ntmps117
  go_wp2
  go_ret
  exact ⟨ret_bool (wire_no (.inl (by have:=Q.out;omega))).symm,GA.out _ _ _ _⟩
 cases e2:((x.res.length:Int) != (x.parent.length:Int))
 case true =>
  have Q:=hideIt e2
  go_enter Tryz.func117,Tryz.ntmps117
  go_wp2
  go_ret
  exact ⟨ret_bool (wire_no (.inr (.inl (by have:=Q.out;simp at this;omega)))).symm,GA.out _ _ _ _⟩
 cases e3:((x.cap.length:Int) != (x.parent.length:Int))
 case true =>
  have Q:=hideIt e3
  go_enter Tryz.func117,Tryz.ntmps117
  go_wp2
  go_ret
  exact ⟨ret_bool (wire_no (.inr (.inr (.inl (by have:=Q.out;simp at this;omega))))).symm,GA.out _ _ _ _⟩
 cases e7:((x.sink.length:Int) != sinks)
 case true =>
  have Q:=hideIt e7
  go_enter Tryz.func117,Tryz.ntmps117
  go_wp2
  go_ret
  exact ⟨ret_bool (wire_no (.inr (.inr (.inr (.inr (.inr (.inr (.inl (by have:=Q.out;simpa using this))))))))).symm,GA.out _ _ _ _⟩
 have L2:Hid (x.res.length=x.parent.length):=by have:=e2;simp at this;exact hideIt (by omega)
 have L3:Hid (x.cap.length=x.parent.length):=by have:=e3;simp at this;exact hideIt (by omega)
 have L7:Hid ((x.sink.length:Int)=sinks):=by have:=e7;simp at this;exact hideIt this
 have m2:(x.res.length:Int)≤x.parent.length∧(x.parent.length:Int)≤x.res.length:=by have:=L2.out;omega
 have m3:(x.cap.length:Int)≤x.parent.length∧(x.parent.length:Int)≤x.cap.length:=by have:=L3.out;omega
 obtain ⟨m2,m2'⟩:=m2
 obtain ⟨m3,m3'⟩:=m3
 go_enter Tryz.func117,Tryz.ntmps117
 go_wp2
 go_loop [6] (fun i=>∃k:Nat,k≤x.parent.length∧i=.int .i64 (k:Int)∧Hid (∀j,j<k→treeOk x.parent x.res j=true∧(∀y,x.res[j]?=some y→inB y 0 1000=true)∧∀y,x.cap[j]?=some y→inB y 0 500=true)) (fun i=>x.parent.length - (intOf i).toNat)
 case atStart=>exact ⟨0,Nat.zero_le _,rfl,fun j hj=>absurd hj (by omega)⟩
 case round =>
  obtain ⟨k,hk,rfl,hco⟩:=hrel
  by_cases hlt:k<x.parent.length
  ·have hlt2:(k:Int)<x.parent.length:=by omega
   obtain ⟨yc,hxyc⟩:∃y,x.cap[k]?=some y:=⟨_,List.getElem?_eq_getElem (by omega)⟩
   obtain ⟨byc,oyc,rfl,csyc,hlyc,hcsyc,hryc⟩:=HC.out (k) yc hxyc
   unfold RI at hryc
   subst hryc
   have hkyc:w.cell? ⟨byc,oyc+(k),none⟩=some (.int .i64 yc):=by simpa using hcsyc 0 _ rfl
   have hbyc:byc<w.heap.size:=cell_lt hkyc
   have Vyc:=hideIt hxyc
   clear hcsyc hlyc hxyc
   obtain ⟨yb,hxyb⟩:∃y,x.res[k]?=some y:=⟨_,List.getElem?_eq_getElem (by omega)⟩
   obtain ⟨byb,oyb,rfl,csyb,hlyb,hcsyb,hryb⟩:=HB.out (k) yb hxyb
   unfold RI at hryb
   subst hryb
   have hkyb:w.cell? ⟨byb,oyb+(k),none⟩=some (.int .i64 yb):=by simpa using hcsyb 0 _ rfl
   have hbyb:byb<w.heap.size:=cell_lt hkyb
   have Vyb:=hideIt hxyb
   clear hcsyb hlyb hxyb
   obtain ⟨ya,hxya⟩:∃y,x.parent[k]?=some y:=⟨_,List.getElem?_eq_getElem (by omega)⟩
   obtain ⟨bya,oya,rfl,csya,hlya,hcsya,hrya⟩:=HA.out (k) ya hxya
   unfold RI at hrya
   subst hrya
   have hkya:w.cell? ⟨bya,oya+(k),none⟩=some (.int .i64 ya):=by simpa using hcsya 0 _ rfl
   have hbya:bya<w.heap.size:=cell_lt hkya
   have Vya:=hideIt hxya
   clear hcsya hlya hxya
   cases h1:inB yc 0 500
   ·have E1:=hideIt h1
    go_wp2_with (go_at_call 73;refine (l01In_any _ _ _ _).mono ?_;rintro e w' ⟨rfl,rfl⟩;first|rw [E1.out])
    go_ret
    exact ⟨ret_bool (wire_no (.inr (.inr (.inr (.inr (.inr (.inl (wiB_no Vyc.out E1.out)))))))).symm,GA.out _ _ _ _⟩
   have E1:=hideIt h1
   cases h2:inB yb 0 1000
   ·have E2:=hideIt h2
    clear h1
    go_wp2_with (go_at_call 73;refine (l01In_any _ _ _ _).mono ?_;rintro e w' ⟨rfl,rfl⟩;first|rw [E1.out]|rw [E2.out])
    go_ret
    exact ⟨ret_bool (wire_no (.inr (.inr (.inr (.inr (.inl (wiB_no Vyb.out E2.out))))))).symm,GA.out _ _ _ _⟩
   have E2:=hideIt h2
   clear h1 h2
   rcases k with _|m
   ·simp only [Nat.add_zero] at hkya hkyb hkyc
    have T:=hideIt (treeOk_0 Vya.out Vyb.out)
    cases g1:(ya != -1)<;>cases g2:(yb != 0)
    all_goals have F1:=hideIt g1
    all_goals have F2:=hideIt g2
    ·go_wp2_with (go_at_call 73;refine (l01In_any _ _ _ _).mono ?_;rintro e w' ⟨rfl,rfl⟩;first|rw [E1.out]|rw [E2.out])
     go_round
     case rel=>exact ⟨1,by omega,by go_num,fun j hj=>by
      obtain rfl:j=0:=by omega
      refine ⟨by rw [T.out];have:=F1.out;have:=F2.out;simp_all,fun y hy=>?_,fun y hy=>?_⟩
      ·rw [Vyb.out] at hy;injection hy with hy;rw [←hy];exact E2.out
      ·rw [Vyc.out] at hy;injection hy with hy;rw [←hy];exact E1.out⟩
     case measure=>simp [intOf];omega
    all_goals
     go_wp2_with (go_at_call 73;refine (l01In_any _ _ _ _).mono ?_;rintro e w' ⟨rfl,rfl⟩;first|rw [E1.out]|rw [E2.out])
     go_ret
     exact ⟨ret_bool (wire_no (.inr (.inr (.inr (.inl (treeB_no hlt (by rw [T.out];have:=F1.out;have:=F2.out;simp_all))))))).symm,GA.out _ _ _ _⟩
   ·have T:=hideIt (treeOk_s (res:=x.res) Vya.out)
    have hz:(((m:Int)+1)==0)=false:=by rw [beq_eq_false_iff_ne];omega
    cases g1:inB ya 0 (m:Int)
    ·have F1:=hideIt g1
     clear g1
     go_wp2_with (go_at_call 73;refine (l01In_any _ _ _ _).mono ?_;rintro e w' ⟨rfl,rfl⟩;first|rw [E1.out]|rw [E2.out]|rw [F1.out])
     go_ret
     exact ⟨ret_bool (wire_no (.inr (.inr (.inr (.inl (treeB_no hlt (by rw [T.out];exact F1.out))))))).symm,GA.out _ _ _ _⟩
    ·have F1:=hideIt g1
     clear g1
     go_wp2_with (go_at_call 73;refine (l01In_any _ _ _ _).mono ?_;rintro e w' ⟨rfl,rfl⟩;first|rw [E1.out]|rw [E2.out]|rw [F1.out])
     go_round
     case rel=>exact ⟨m+1+1,by omega,by go_num,fun j hj=>by
      by_cases e:j=m+1
      ·subst e
       refine ⟨by rw [T.out];exact F1.out,fun y hy=>?_,fun y hy=>?_⟩
       ·rw [Vyb.out] at hy;injection hy with hy;rw [←hy];exact E2.out
       ·rw [Vyc.out] at hy;injection hy with hy;rw [←hy];exact E1.out
      ·exact hco.out j (by omega)⟩
     case measure=>simp [intOf];omega
  ·have hk2:k=x.parent.length:=by omega
   subst hk2
   have T4:Hid (treeB x.parent x.res=true):=treeB_mk fun i hi=>(hco.out i hi).1
   have T5:Hid (wiB x.res 0 1000=true):=wiB_mk fun j y hy=>(hco.out j (by have:=(List.getElem?_eq_some_iff.1 hy).1;omega)).2.1 y hy
   have T6:Hid (wiB x.cap 0 500=true):=wiB_mk fun j y hy=>(hco.out j (by have:=(List.getElem?_eq_some_iff.1 hy).1;omega)).2.2 y hy
   clear hco
   go_wp2
   go_loop [7] (fun i=>∃k:Nat,k≤x.sink.length∧i=.int .i64 (k:Int)∧Hid (∀j y,j<k→x.sink[j]?=some y→inB y 0 ((x.parent.length:Int) - 1)=true)) (fun i=>x.sink.length - (intOf i).toNat)
   case atStart=>exact ⟨0,Nat.zero_le _,rfl,fun j y hj=>absurd hj (by omega)⟩
   case round =>
    obtain ⟨k,hk,rfl,hco⟩:=hrel
    by_cases hlt:k<x.sink.length
    ·obtain ⟨yd,hxyd⟩:∃y,x.sink[k]?=some y:=⟨_,List.getElem?_eq_getElem (by omega)⟩
     obtain ⟨byd,oyd,rfl,csyd,hlyd,hcsyd,hryd⟩:=HD.out (k) yd hxyd
     unfold RI at hryd
     subst hryd
     have hkyd:w.cell? ⟨byd,oyd+(k),none⟩=some (.int .i64 yd):=by simpa using hcsyd 0 _ rfl
     have hbyd:byd<w.heap.size:=cell_lt hkyd
     have Vyd:=hideIt hxyd
     clear hcsyd hlyd hxyd
     cases g1:inB yd 0 ((x.parent.length:Int) - 1)
     ·have F1:=hideIt g1
      clear g1
      go_wp2_with (go_at_call 73;refine (l01In_any _ _ _ _).mono ?_;rintro e w' ⟨rfl,rfl⟩;first|rw [F1.out])
      go_ret
      exact ⟨ret_bool (wire_no (.inr (.inr (.inr (.inr (.inr (.inr (.inr (wiB_no Vyd.out F1.out))))))))).symm,GA.out _ _ _ _⟩
     ·have F1:=hideIt g1
      clear g1
      go_wp2_with (go_at_call 73;refine (l01In_any _ _ _ _).mono ?_;rintro e w' ⟨rfl,rfl⟩;first|rw [F1.out])
      go_round
      case rel=>exact ⟨k+1,by omega,by go_num,fun j y hj hy=>by
       by_cases e:j=k
       ·subst e;rw [Vyd.out] at hy;injection hy with hy;rw [←hy];exact F1.out
       ·exact hco.out j y (by omega) hy⟩
      case measure=>simp [intOf];omega
    ·have hk2:k=x.sink.length:=by omega
     subst hk2
     go_wp2
     go_ret
     exact ⟨ret_bool (wire_yes (by omega) L2.out L3.out T4.out T5.out T6.out L7.out (wiB_mk fun j y hy=>hco.out j y (List.getElem?_eq_some_iff.1 hy).1 hy)).symm,GA.out _ _ _ _⟩
end Go.Proofs.YtlnpefiipdkafaaGreatDoor
