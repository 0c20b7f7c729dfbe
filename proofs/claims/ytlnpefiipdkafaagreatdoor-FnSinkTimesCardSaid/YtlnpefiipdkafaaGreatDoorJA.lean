/-
  The program's slew at a sink.
-/
import Derived.Test.YtlnpefiipdkafaaGreatDoorHT
import Derived.Test.YtlnpefiipdkafaaGreatDoorHR
import Derived.Test.YtlnpefiipdkafaaGreatDoorIZ
import Derived.Test.YtlnpefiipdkafaaGreatDoorHM
import Derived.Test.YtlnpefiipdkafaaGreatDoorGA
namespace Go.Proofs.YtlnpefiipdkafaaGreatDoor
open Go.RowKit

def exP (D sink:List Int) (i:Nat):List Int:=(sink.take i).map fun j=>D.getD j.toNat 0
def exL (cs:List CellD) (d:DesignD) (x:WireD) (n:Int):List Int:=exP (delaysL cs d x n) x.sink x.sink.length
theorem exP_len {D sink:List Int} {i:Nat} (h:i≤sink.length):(exP D sink i).length=i:=by
 unfold exP
 rw [List.length_map,List.length_take]
 omega
theorem exP_succ {D sink:List Int} {i nd:Nat} (h:sink[i]?=some (nd:Int)):exP D sink (i+1)=exP D sink i++[D.getD nd 0]:=by
 unfold exP
 rw [List.take_add_one,h]
 simp
theorem exL_at {cs:List CellD} {d:DesignD} {x:WireD} {n:Int} {q:Nat} (h:q<x.sink.length):(exL cs d x n)[q]?=some (dlyV cs d x n q):=by
 unfold exL exP dlyV
 rw [List.take_length,List.getElem?_map,List.getElem?_eq_getElem h,List.getD_eq_getElem?_getD (l:=x.sink),List.getElem?_eq_getElem h]
 rfl
set_option maxHeartbeats 16000000 in
set_option maxRecDepth 10000 in
theorem iExact_any {lv a b c wv:Value} {cs:List CellD} {d:DesignD} {ws:List WireD} {x:WireD} (k:Nat) (w:World) (hl:RCells w lv cs) (hd:RDesign w [a,b,c] d) (hw:RWires w wv ws) (hb:BlkP cs d ws) (hx:ws[k]?=some x) :
  Calls Tryz.prog 68 #[.agg #[lv,a,b,c,wv],.int .i64 (k:Int)] w fun e w'=>∃(A:Option Addr) (c:Nat) (bs:List Nat),e=.returned (.slice A (exL cs d x (k:Int)).length c)∧OInts w' (.slice A (exL cs d x (k:Int)).length c) (exL cs d x (k:Int)) bs∧Own w.heap.size w'.heap.size bs∧Grows w w':=by
 have cl:=RList.len hl
 have wl:=RList.len hw
 obtain ⟨C,nc,rfl⟩:∃(D:Option Addr) (q:Nat),lv=.slice D cs.length q:=by obtain ⟨D,q,e,-⟩:=RList.form hl;exact ⟨D,q,e⟩
 obtain ⟨W,nw,rfl⟩:∃(D:Option Addr) (q:Nat),wv=.slice D ws.length q:=by obtain ⟨D,q,e,-⟩:=RList.form hw;exact ⟨D,q,e⟩
 have nl:=RList.len hd.parts.2.1
 obtain ⟨I,N,O,ni,nn,no,rfl,rfl,rfl⟩:=des_open hd
 have hT:=wireT_of (hb.wire k x hx)
 have n1:=hT.n1
 have n8:=hT.n8
 have ncap:=hT.cap
 have nres:=hT.res
 have nsink:=hT.sink
 have klt:k<ws.length:=(List.getElem?_eq_some_iff.1 hx).1
 have k1:(k:Int)<(ws.length:Int):=by omega
 have k2:(0:Int)≤(k:Int):=by omega
 obtain ⟨bw,ow,A0,A1,A2,A3,m0,m1,m2,m3,rfl,q0,q1,q2,q3,hxr⟩:=wires_at hw hx
 have lbw:=cell_lt q0
 simp at lbw
 have ncap1:x.cap.length≤x.parent.length:=by omega
 have ncap2:x.parent.length≤x.cap.length:=by omega
 have ns1:x.sink.length≤(sinksL d (k:Int)).length:=by omega
 have ns2:(sinksL d (k:Int)).length≤x.sink.length:=by omega
 have nr1:x.res.length≤x.parent.length:=by omega
 have nr2:x.parent.length≤x.res.length:=by omega
 have HT:=hideIt hT
 have DP:=hideIt hb.des
 have HX:=hideIt hx
 have mb:=sinksL_len hb.des (k:Int)
 have BP:=hideIt hb
 have DLEN:=hideIt (delaysL_len (cs:=cs) (d:=d) (x:=x) (n:=(k:Int)) (by omega))
 clear hT hb hx ncap nres nsink
 obtain ⟨i0,hi,hz0,hz1,hz2⟩:=info_parts info_i64'
 have g:Grows w w:=Grows.refl w
 have G:Hid (Grows w (w.alloc (.cells #[.slice C cs.length nc,.slice I d.insts.length ni,.slice N d.nets.length nn,.slice O d.ports.length no,.slice (some ⟨bw,ow,none⟩) ws.length nw] 49))):=hideIt ((Grows.refl w).alloc _)
 clear g
 have SB:Hid (Blk (w.alloc (.cells #[.slice C cs.length nc,.slice I d.insts.length ni,.slice N d.nets.length nn,.slice O d.ports.length no,.slice (some ⟨bw,ow,none⟩) ws.length nw] 49)) (w.heap.size) 49 #[.slice C cs.length nc,.slice I d.insts.length ni,.slice N d.nets.length nn,.slice O d.ports.length no,.slice (some ⟨bw,ow,none⟩) ws.length nw]):=by
  have:=(Blk.new w 49 #[.slice C cs.length nc,.slice I d.insts.length ni,.slice N d.nets.length nn,.slice O d.ports.length no,.slice (some ⟨bw,ow,none⟩) ws.length nw]).grows (Grows.refl (w.alloc (.cells #[.slice C cs.length nc,.slice I d.insts.length ni,.slice N d.nets.length nn,.slice O d.ports.length no,.slice (some ⟨bw,ow,none⟩) ws.length nw] 49)))
  exact hideIt (by simpa using this)
 replace hl:=hideIt (hl.keep G.out.keeps)
 replace hd:=hideIt (hd.keep G.out.keeps)
 replace hxr:=hideIt (hxr.keep G.out.keeps)
 replace hw:=hideIt (hw.keep G.out.keeps)
 go_enter Tryz.func68,Tryz.ntmps68
 go_wp2_with fail
 refine (iDelays_any k _ hl.out hd.out hw.out BP.out HX.out).mono ?_
 rintro e u1 ⟨A9,c9,b9,rfl,o,ow9,g⟩
 replace G:=hideIt (G.out.trans g)
 replace hl:=hideIt (hl.out.keep g.keeps)
 replace hd:=hideIt (hd.out.keep g.keeps)
 replace hxr:=hideIt (hxr.out.keep g.keeps)
 replace hw:=hideIt (hw.out.keep g.keeps)
 replace SB:=hideIt (SB.out.grows g)
 have dl1:=DLEN.out
 obtain ⟨D,eD⟩:∃D:List Int,D=delaysL cs d x (k:Int):=⟨_,rfl⟩
 rw [←eD] at o dl1 ⊢
 have EE:=hideIt (show exP D x.sink x.sink.length=exL cs d x (k:Int) by rw [eD];rfl)
 have dl2:D.length≤x.parent.length:=by omega
 have dl3:x.parent.length≤D.length:=by omega
 have rl:=o.reads
 clear o ow9 eD dl1
 clear g
 have kSB_0:u1.cell? ⟨w.heap.size,0,none⟩=some (.slice C cs.length nc):=SB.out.cell 0
 have kSB_1:u1.cell? ⟨w.heap.size,1,none⟩=some (.slice I d.insts.length ni):=SB.out.cell 1
 have kSB_2:u1.cell? ⟨w.heap.size,2,none⟩=some (.slice N d.nets.length nn):=SB.out.cell 2
 have kSB_3:u1.cell? ⟨w.heap.size,3,none⟩=some (.slice O d.ports.length no):=SB.out.cell 3
 have kSB_4:u1.cell? ⟨w.heap.size,4,none⟩=some (.slice (some ⟨bw,ow,none⟩) ws.length nw):=SB.out.cell 4
 have fSB:=SB.out.frozen
 have lSB:w.heap.size<u1.heap.size:=SB.out.lt
 replace rl:=hideIt rl
 have r3:u1.cell? ⟨bw,ow+k * 4+3,none⟩=some (.slice A3 x.sink.length m3):=G.out.keeps _ _ q3
 have sk8:x.sink.length≤78:=by omega
 go_wp2
 clear kSB_0 kSB_1 kSB_2 kSB_3 kSB_4 fSB lSB r3
 go_loopw [6,8,19] (fun s _ z wr=>∃(nv:Value) (i:Nat),nv=s∧i≤x.sink.length∧z=.int .i64 (i:Int)∧Hid (wr.ownsRow (u1.heap.size) 2 1 nv (exP D x.sink i).length ((exP D x.sink i).map (Value.int .i64)))∧Grows u1 wr) (fun _ _ z _=>x.sink.length - (intOf z).toNat)
 case atStart=>exact ⟨_,0,rfl,Nat.zero_le _,rfl,hideIt (by simpa [exP] using World.ownsRow_nil _ _ _ _),Grows.refl _⟩
 case round =>
  obtain ⟨nv,i,rfl,hk,rfl,hown,hg⟩:=hrel
  have HG:=hideIt hg
  clear hg
  by_cases hlt:i<x.sink.length
  ·obtain ⟨nd,hnd⟩:∃nd:Nat,x.sink.getD i 0=(nd:Int):=⟨(x.sink.getD i 0).toNat,by have:=(HT.out.sb i (by omega)).1;omega⟩
   have ndlt:nd<x.parent.length:=by have:=(HT.out.sb i (by omega)).2;rw [hnd] at this;simpa using this
   have hsk:x.sink[i]?=some (nd:Int):=by rw [←hnd];exact getD_at (by omega)
   have hdk:D[nd]?=some (D.getD nd 0):=getD_at (by omega)
   obtain ⟨dv,hdv⟩:∃dv,dv=D.getD nd 0:=⟨_,rfl⟩
   rw [←hdv] at hdk
   have SS:=hideIt (show exP D x.sink (i+1)=exP D x.sink i++[dv] by rw [hdv];exact exP_succ hsk)
   have EPL:=exP_len (D:=D) (sink:=x.sink) (i:=i) hk
   obtain ⟨bs,os,rfl,qs⟩:=ints_at hxr.out.open_.2.2.2 hsk
   obtain ⟨bd,od,rfl,qd⟩:=ints_at rl.out hdk
   replace qs:=HG.out.keeps _ _ qs
   replace qd:=HG.out.keeps _ _ qd
   have l1:(i:Int)<(x.sink.length:Int):=by omega
   have l2:(0:Int)≤(i:Int):=by omega
   have l5:(nd:Int)<(D.length:Int):=by omega
   have l6:(0:Int)≤(nd:Int):=by omega
   have epl:(exP D x.sink i).length≤78:=by omega
   have own1:=hideIt (hown.out.alloc (.cells #[.int .i64 dv] 2))
   have GA:=hideIt (HG.out.alloc (.cells #[.int .i64 dv] 2))
   have nlt:Hid (∀q,nv.ownBlock=some q→u1.heap.size≤q∧q<wr.heap.size):=hideIt hown.out.lt
   clear hnd hsk hdk hdv EPL hown
   go_wp2_with (at_builtin;refine wpList_append_own_at _ rfl _ _ 39 rfl (u1.heap.size) 2 i0 (.int .i64 0) 1 8 Tryz.underlying39 hi hz0 hz1 hz2 rfl (by decide) nv (exP D x.sink i).length ((exP D x.sink i).map (Value.int .i64)) rfl own1.out ⟨wr.heap.size,0,none⟩ 1 1 [.int .i64 dv] rfl ?c1 ?c2 ?c3 ?c4 ?c5 ?c6 ?_)
   case c1=>simp
   case c2 =>
    intro j u hj
    match j,hj with
    | 0,hj=>simp at hj;subst hj;simp [Addr.add]
   case c3=>intro u hu;simp at hu;subst hu;rfl
   case c4=>unfold maxLen;omega
   case c5=>omega
   case c6=>have:=GA.out.size;simpa using this
   intro v' w4 hown3 hgrow hnil hat
   have G4:=hideIt (GA.out.grown hgrow (fun q e=>(nlt.out q e).1))
   have OW:=hideIt (show w4.ownsRow (u1.heap.size) 2 1 v' (exP D x.sink (i+1)).length ((exP D x.sink (i+1)).map (Value.int .i64)) by rw [SS.out,List.length_append,List.map_append];exact hown3)
   clear hown3 hgrow hnil hat own1
   go_wp2
   go_roundw
   case rel=>exact ⟨_,i+1,rfl,by omega,by go_num,OW.out,G4.out⟩
   case measure=>simp [intOf];omega
  ·obtain rfl:i=x.sink.length:=by omega
   rw [EE.out] at hown
   obtain ⟨A2,c2,bs,rfl,ho,how⟩:=own_oints (xs:=exL cs d x (k:Int)) hown.out
   have HO:=hideIt ho
   have HW:=hideIt (how.mono G.out.size (Nat.le_refl _))
   have GE:=hideIt (G.out.trans HG.out)
   clear ho how hown
   go_wp2
   go_ret
   exact ⟨_,_,_,rfl,HO.out,HW.out,GE.out⟩

set_option maxHeartbeats 16000000 in
set_option maxRecDepth 10000 in
theorem iSinkSlew_any {lv a b c wv:Value} {cs:List CellD} {d:DesignD} {ws:List WireD} (n:Int) (s:Int) (sl:Int) (m:Int) (w:World) (hl:RCells w lv cs) (hd:RDesign w [a,b,c] d) (hw:RWires w wv ws) (hsl:SmCells cs) (hsd:SmDesign d) :
  Calls Tryz.prog 31 #[.agg #[lv,a,b,c,wv],.int .i64 n,.int .i64 s,.int .i64 sl,.int .i64 m] w fun e w'=>e=.returned (.tuple #[.int .i64 (slewVal cs d ws n s sl m),.int .i64 (slewCode cs d ws n s sl m)])∧Grows w w':=by
 have cl:=RList.len hl
 have wl:=RList.len hw
 obtain ⟨C,nc,rfl⟩:∃(D:Option Addr) (q:Nat),lv=.slice D cs.length q:=by obtain ⟨D,q,e,-⟩:=RList.form hl;exact ⟨D,q,e⟩
 obtain ⟨W,nw,rfl⟩:∃(D:Option Addr) (q:Nat),wv=.slice D ws.length q:=by obtain ⟨D,q,e,-⟩:=RList.form hw;exact ⟨D,q,e⟩
 have nl:=RList.len hd.parts.2.1
 obtain ⟨I,N,O,ni,nn,no,rfl,rfl,rfl⟩:=des_open hd
 have SA:=hideIt hsl
 have SM:=hideIt hsd
 clear hsl hsd
 have g:Grows w w:=Grows.refl w
 have G:Hid (Grows w (w.alloc (.cells #[.slice C cs.length nc,.slice I d.insts.length ni,.slice N d.nets.length nn,.slice O d.ports.length no,.slice W ws.length nw] 49))):=hideIt ((Grows.refl w).alloc _)
 clear g
 have SB:Hid (Blk (w.alloc (.cells #[.slice C cs.length nc,.slice I d.insts.length ni,.slice N d.nets.length nn,.slice O d.ports.length no,.slice W ws.length nw] 49)) (w.heap.size) 49 #[.slice C cs.length nc,.slice I d.insts.length ni,.slice N d.nets.length nn,.slice O d.ports.length no,.slice W ws.length nw]):=by
  have:=(Blk.new w 49 #[.slice C cs.length nc,.slice I d.insts.length ni,.slice N d.nets.length nn,.slice O d.ports.length no,.slice W ws.length nw]).grows (Grows.refl (w.alloc (.cells #[.slice C cs.length nc,.slice I d.insts.length ni,.slice N d.nets.length nn,.slice O d.ports.length no,.slice W ws.length nw] 49)))
  exact hideIt (by simpa using this)
 replace hl:=hideIt (hl.keep G.out.keeps)
 replace hd:=hideIt (hd.keep G.out.keeps)
 replace hw:=hideIt (hw.keep G.out.keeps)
 go_enter Tryz.func31,Tryz.ntmps31
 go_wp2_with fail
 refine (iCode_any n _ hl.out hd.out hw.out SA.out SM.out).mono ?_
 rintro e u1 ⟨rfl,g⟩
 replace G:=hideIt (G.out.trans g)
 replace hl:=hideIt (hl.out.keep g.keeps)
 replace hd:=hideIt (hd.out.keep g.keeps)
 replace hw:=hideIt (hw.out.keep g.keeps)
 replace SB:=hideIt (SB.out.grows g)
 clear g
 have kSB_0:u1.cell? ⟨w.heap.size,0,none⟩=some (.slice C cs.length nc):=SB.out.cell 0
 have kSB_1:u1.cell? ⟨w.heap.size,1,none⟩=some (.slice I d.insts.length ni):=SB.out.cell 1
 have kSB_2:u1.cell? ⟨w.heap.size,2,none⟩=some (.slice N d.nets.length nn):=SB.out.cell 2
 have kSB_3:u1.cell? ⟨w.heap.size,3,none⟩=some (.slice O d.ports.length no):=SB.out.cell 3
 have kSB_4:u1.cell? ⟨w.heap.size,4,none⟩=some (.slice W ws.length nw):=SB.out.cell 4
 have fSB:=SB.out.frozen
 have lSB:w.heap.size<u1.heap.size:=SB.out.lt
 by_cases hc:codeV cs d ws n=0
 case neg =>
  have E2:=hideIt (slew_no (s:=s) (sl:=sl) (m:=m) hc)
  obtain ⟨cd,ecd⟩:∃z:Int,z=codeV cs d ws n:=⟨_,rfl⟩
  have tc:(cd != 0)=true:=by rw [bne_iff_ne,ecd];exact hc
  rw [←ecd] at E2 ⊢
  clear ecd hc
  go_wp2
  refine bodyPost_ret (by simp [*,results,Tryz.results31,go_sem];try rfl) rfl ?_
  exact ⟨ret_two E2.out.1.symm E2.out.2.symm,G.out⟩
 have EC:=hideIt hc
 obtain ⟨bp,k,rfl,klt⟩:=codeV_0 hc
 have BP:=hideIt bp
 obtain ⟨x,hx⟩:∃x,ws[k]?=some x:=⟨_,List.getElem?_eq_getElem klt⟩
 have HX:=hideIt hx
 rw [hc]
 clear hc bp hx
 go_wp2_with fail
 clear kSB_0 kSB_1 kSB_2 kSB_3 kSB_4 fSB lSB
 refine (iExact_any k _ hl.out hd.out hw.out BP.out HX.out).mono ?_
 rintro e u2 ⟨A8,c8,b8,rfl,o,ow8,g⟩
 replace G:=hideIt (G.out.trans g)
 replace hl:=hideIt (hl.out.keep g.keeps)
 replace hd:=hideIt (hd.out.keep g.keeps)
 replace hw:=hideIt (hw.out.keep g.keeps)
 replace SB:=hideIt (SB.out.grows g)
 have HTW:=hideIt (wireT_of (BP.out.wire k x HX.out))
 obtain ⟨E8,e8⟩:∃E8:List Int,E8=exL cs d x (k:Int):=⟨_,rfl⟩
 have EL:Hid (E8.length=x.sink.length):=hideIt (by rw [e8];exact exP_len (Nat.le_refl _))
 have EG:Hid (∀q:Nat,q<x.sink.length→E8[q]?=some (dlyV cs d x (k:Int) q)):=hideIt (fun q hq=>by rw [e8];exact exL_at hq)
 rw [←e8] at o ⊢
 have r8:=o.reads
 have xl:(E8.length:Int)≤9223372036854775807:=RList.len r8
 clear o ow8 e8
 clear g
 have kSB_0:u2.cell? ⟨w.heap.size,0,none⟩=some (.slice C cs.length nc):=SB.out.cell 0
 have kSB_1:u2.cell? ⟨w.heap.size,1,none⟩=some (.slice I d.insts.length ni):=SB.out.cell 1
 have kSB_2:u2.cell? ⟨w.heap.size,2,none⟩=some (.slice N d.nets.length nn):=SB.out.cell 2
 have kSB_3:u2.cell? ⟨w.heap.size,3,none⟩=some (.slice O d.ports.length no):=SB.out.cell 3
 have kSB_4:u2.cell? ⟨w.heap.size,4,none⟩=some (.slice W ws.length nw):=SB.out.cell 4
 have fSB:=SB.out.frozen
 have lSB:w.heap.size<u2.heap.size:=SB.out.lt
 replace r8:=hideIt r8
 have wr1:IntKind.i64.wrap ((E8.length:Int) - 1)=(E8.length:Int) - 1:=Go.IntWalk.i64_in _ (by omega)
 go_wp2_with fail
 refine (lengthI64_any _ r8.out).mono ?_
 rintro e wq ⟨rfl,rfl⟩
 go_wp2_with fail
 refine (within_any _ _ _ _).mono ?_
 rintro e wq ⟨rfl,rfl⟩
 cases t1:inB s 0 ((E8.length:Int) - 1)
 ·have E:=hideIt (slew_out EC.out HX.out (s:=s) (sl:=sl) (m:=m) (by unfold tests;rw [←EL.out,t1];rfl))
  clear t1
  go_wp2
  refine bodyPost_ret (by simp [*,results,Tryz.results31,go_sem];try rfl) rfl ?_
  exact ⟨ret_two E.out.1.symm E.out.2.symm,G.out⟩
 have T1:=hideIt t1
 clear t1
 go_wp2_with fail
 refine (within_any _ _ _ _).mono ?_
 rintro e wq ⟨rfl,rfl⟩
 cases t2:inB sl 0 1000000
 ·have E:=hideIt (slew_out EC.out HX.out (s:=s) (sl:=sl) (m:=m) (by unfold tests;rw [←EL.out,T1.out,t2];rfl))
  clear t2
  go_wp2
  refine bodyPost_ret (by simp [*,results,Tryz.results31,go_sem];try rfl) rfl ?_
  exact ⟨ret_two E.out.1.symm E.out.2.symm,G.out⟩
 have T2:=hideIt t2
 clear t2
 go_wp2_with fail
 refine (isMode_any _ _).mono ?_
 rintro e wq ⟨rfl,rfl⟩
 cases t3:isM m
 ·have E:=hideIt (slew_out EC.out HX.out (s:=s) (sl:=sl) (m:=m) (by unfold tests;rw [←EL.out,T1.out,T2.out,t3];rfl))
  clear t3
  go_wp2
  refine bodyPost_ret (by simp [*,results,Tryz.results31,go_sem];try rfl) rfl ?_
  exact ⟨ret_two E.out.1.symm E.out.2.symm,G.out⟩
 have E:=hideIt (slew_in EC.out HX.out (s:=s) (sl:=sl) (m:=m) (by unfold tests;rw [←EL.out,T1.out,T2.out,t3];rfl))
 have T3:=hideIt t3
 clear t3
 have hs:=inB_true T1.out
 have hs2:=inB_true T2.out
 obtain ⟨q,rfl⟩:∃q:Nat,s=(q:Int):=⟨s.toNat,by omega⟩
 rw [Int.toNat_natCast] at E
 have q1:(q:Int)<(E8.length:Int):=by omega
 have q2:(0:Int)≤(q:Int):=by omega
 have q3:q<x.sink.length:=by have:=EL.out;omega
 have hqd:=EG.out q q3
 have db:=dlyV_bd BP.out.des HTW.out q
 obtain ⟨dv,hdv⟩:∃dv,dv=dlyV cs d x (k:Int) q:=⟨_,rfl⟩
 have DV:=hideIt hdv
 rw [←hdv] at hqd db
 obtain ⟨bd,od,rfl,qd⟩:=ints_at r8.out hqd
 clear hqd hdv hs
 go_wp2_with fail
 refine (wireSlew_any sl dv m _ hs2.1 hs2.2 db.1 db.2).mono ?_
 rintro e wq ⟨⟨r,hr,rfl⟩,n1,rfl⟩
 have RE:=hideIt ((show r=slewR sl (dlyV cs d x (k:Int) q) m by rw [←DV.out];exact slewR_eq hr).trans E.out.1.symm)
 go_wp2
 refine bodyPost_ret (by simp [*,results,Tryz.results31,go_sem];try rfl) rfl ?_
 exact ⟨ret_two RE.out E.out.2.symm,G.out.drewN _⟩

end Go.Proofs.YtlnpefiipdkafaaGreatDoor
/-
  The program's delays of the sinks of a net.
-/
namespace Go.Proofs.YtlnpefiipdkafaaGreatDoor
open Go.RowKit
/-- the first j of the delays rounded -/
def rdL (E:List Int) (m:Int) (j:Nat):List Int:=(E.take j).map (fun a=>rdv a 1000 m)++E.drop j
theorem rdL_len (E:List Int) (m:Int) (j:Nat):(rdL E m j).length=E.length:=by
 unfold rdL
 simp
 omega
theorem rdL_at {E:List Int} {m:Int} {j:Nat} {a:Int} (h:E[j]?=some a):(rdL E m j)[j]?=some a∧(rdL E m j).set j (rdv a 1000 m)=rdL E m (j+1):=by
 have hj:=(List.getElem?_eq_some_iff.1 h).1
 have hl:((E.take j).map (fun a=>rdv a 1000 m)).length=j:=by simp;omega
 have hd:E.drop j=a::E.drop (j+1):=by
  rw [List.drop_eq_getElem_cons hj]
  have:=(List.getElem?_eq_some_iff.1 h).2
  rw [this]
 refine ⟨?_,?_⟩
 ·unfold rdL
  rw [List.getElem?_append_right (by omega),hl,hd]
  simp
 ·unfold rdL
  rw [List.set_append_right _ _ (by omega),hl,hd,List.take_add_one,h]
  simp
theorem rdL_all (E:List Int) (m:Int):rdL E m E.length=E.map fun a=>rdv a 1000 m:=by unfold rdL;simp
set_option maxHeartbeats 8000000 in
set_option maxRecDepth 10000 in
theorem iSinkDelays_at {lv a b c wv:Value} {cs:List CellD} {d:DesignD} {ws:List WireD} {x:WireD} (k:Nat) (m:Int) (w:World) (hl:RCells w lv cs) (hd:RDesign w [a,b,c] d) (hw:RWires w wv ws) (hsl:SmCells cs) (hsd:SmDesign d) (hc:codeV cs d ws (k:Int)=0) (hx:ws[k]?=some x) (hm:isM m=true) :
  Calls Tryz.prog 33 #[.agg #[lv,a,b,c,wv],.int .i64 (k:Int),.int .i64 m] w fun e w'=>∃(A:Option Addr) (c:Nat) (bs:List Nat),e=.returned (.tuple #[.slice A (exL cs d x (k:Int)).length c,.int .i64 0])∧OInts w' (.slice A (exL cs d x (k:Int)).length c) ((exL cs d x (k:Int)).map fun a=>rdv a 1000 m) bs∧Grows w w':=by
 have EC:=hideIt hc
 have HX:=hideIt hx
 have BP:=hideIt (codeV_0 hc).1
 have HM:=hideIt hm
 clear hc hx hm
 have cl:=RList.len hl
 have wl:=RList.len hw
 obtain ⟨C,nc,rfl⟩:∃(D:Option Addr) (q:Nat),lv=.slice D cs.length q:=by obtain ⟨D,q,e,-⟩:=RList.form hl;exact ⟨D,q,e⟩
 obtain ⟨W,nw,rfl⟩:∃(D:Option Addr) (q:Nat),wv=.slice D ws.length q:=by obtain ⟨D,q,e,-⟩:=RList.form hw;exact ⟨D,q,e⟩
 have nl:=RList.len hd.parts.2.1
 obtain ⟨I,N,O,ni,nn,no,rfl,rfl,rfl⟩:=des_open hd
 have SA:=hideIt hsl
 have SM:=hideIt hsd
 clear hsl hsd
 have g:Grows w w:=Grows.refl w
 have G:Hid (Grows w (w.alloc (.cells #[.slice C cs.length nc,.slice I d.insts.length ni,.slice N d.nets.length nn,.slice O d.ports.length no,.slice W ws.length nw] 49))):=hideIt ((Grows.refl w).alloc _)
 clear g
 have SB:Hid (Blk (w.alloc (.cells #[.slice C cs.length nc,.slice I d.insts.length ni,.slice N d.nets.length nn,.slice O d.ports.length no,.slice W ws.length nw] 49)) (w.heap.size) 49 #[.slice C cs.length nc,.slice I d.insts.length ni,.slice N d.nets.length nn,.slice O d.ports.length no,.slice W ws.length nw]):=by
  have:=(Blk.new w 49 #[.slice C cs.length nc,.slice I d.insts.length ni,.slice N d.nets.length nn,.slice O d.ports.length no,.slice W ws.length nw]).grows (Grows.refl (w.alloc (.cells #[.slice C cs.length nc,.slice I d.insts.length ni,.slice N d.nets.length nn,.slice O d.ports.length no,.slice W ws.length nw] 49)))
  exact hideIt (by simpa using this)
 replace hl:=hideIt (hl.keep G.out.keeps)
 replace hd:=hideIt (hd.keep G.out.keeps)
 replace hw:=hideIt (hw.keep G.out.keeps)
 go_enter Tryz.func33,Tryz.ntmps33
 go_wp2_with fail
 refine (iCode_any (k:Int) _ hl.out hd.out hw.out SA.out SM.out).mono ?_
 rintro e u1 ⟨rfl,g⟩
 replace G:=hideIt (G.out.trans g)
 replace hl:=hideIt (hl.out.keep g.keeps)
 replace hd:=hideIt (hd.out.keep g.keeps)
 replace hw:=hideIt (hw.out.keep g.keeps)
 replace SB:=hideIt (SB.out.grows g)
 clear g
 have kSB_0:u1.cell? ⟨w.heap.size,0,none⟩=some (.slice C cs.length nc):=SB.out.cell 0
 have kSB_1:u1.cell? ⟨w.heap.size,1,none⟩=some (.slice I d.insts.length ni):=SB.out.cell 1
 have kSB_2:u1.cell? ⟨w.heap.size,2,none⟩=some (.slice N d.nets.length nn):=SB.out.cell 2
 have kSB_3:u1.cell? ⟨w.heap.size,3,none⟩=some (.slice O d.ports.length no):=SB.out.cell 3
 have kSB_4:u1.cell? ⟨w.heap.size,4,none⟩=some (.slice W ws.length nw):=SB.out.cell 4
 have fSB:=SB.out.frozen
 have lSB:w.heap.size<u1.heap.size:=SB.out.lt
 rw [EC.out]
 go_wp2_with fail
 refine (isMode_any m _).mono ?_
 rintro e u1b ⟨rfl,rfl⟩
 rw [HM.out]
 go_wp2_with fail
 clear kSB_0 kSB_1 kSB_2 kSB_3 kSB_4 fSB lSB
 refine (iExact_any k _ hl.out hd.out hw.out BP.out HX.out).mono ?_
 rintro e u2 ⟨A8,c8,b8,rfl,o,ow8,g⟩
 have G2:=hideIt (G.out.trans g)
 have HTW:=hideIt (wireT_of (BP.out.wire k x HX.out))
 obtain ⟨E8,e8⟩:∃E8:List Int,E8=exL cs d x (k:Int):=⟨_,rfl⟩
 have EL:Hid (E8.length=x.sink.length):=hideIt (by rw [e8];exact exP_len (Nat.le_refl _))
 have EG:Hid (∀q:Nat,q<x.sink.length→E8[q]?=some (dlyV cs d x (k:Int) q)):=hideIt (fun q hq=>by rw [e8];exact exL_at hq)
 rw [←e8] at o ⊢
 have e20:E8.length≤9223372036854775807:=by have:=RList.len o.reads;omega
 have OO:Hid (OInts u2 (.slice A8 E8.length c8) (rdL E8 m 0) b8):=hideIt (by unfold rdL;simpa using o)
 have OW8:Hid (∀q∈b8,u1.heap.size≤q):=hideIt (fun q hq=>(ow8.2 q hq).1)
 have SG:Hid (w.heap.size≤u1.heap.size):=hideIt G.out.size
 have HE8:=hideIt e8
 clear o ow8 e8 g G hl hd hw SB
 go_wp2
 go_loopw [26,10,11] (fun jv s10 s11 wr=>∃j:Nat,jv=.int .i64 (j:Int)∧j≤E8.length∧Hid (OInts wr (.slice A8 E8.length c8) (rdL E8 m j) b8)∧Hid (Chg b8 u2 wr)) (fun jv _ _ _=>E8.length - (intOf jv).toNat)
 case atStart=>exact ⟨0,rfl,Nat.zero_le _,OO,hideIt (Chg.refl _ _)⟩
 case round =>
  clear OO
  obtain ⟨j,rfl,hj,OO,CC⟩:=hrel
  by_cases hlt:j<E8.length
  ·have hli:(j:Int)<(E8.length:Int):=by omega
   have hjs:j<x.sink.length:=by rw [←EL.out];exact hlt
   obtain ⟨dv,hdv⟩:∃dv,dv=dlyV cs d x (k:Int) j:=⟨_,rfl⟩
   have hE:E8[j]?=some dv:=by rw [hdv];exact EG.out j hjs
   have hb:=dlyV_bd BP.out.des HTW.out j
   rw [←hdv] at hb
   obtain ⟨h1,h2⟩:=rdL_at (m:=m) hE
   obtain ⟨g8,c9,ev,eb,-,-,lg,fg⟩:=OO.out.one (by rw [rdL_len];omega)
   have eA:A8=some ⟨g8,0,none⟩:=by injection ev
   subst eA eb
   have ca:=OO.out.at h1
   have H2:=hideIt h2
   clear ev h1 h2 hE hdv
   go_wp2_with fail
   refine (divide_any dv 1000 m _ (by decide) (by omega) (by omega)).mono ?_
   rintro e u4 ⟨rfl,n4,rfl⟩
   have O4:Hid (OInts ((wr.drewN n4).setCell ⟨g8,j,none⟩ (.int .i64 (rdv dv 1000 m))) (.slice (some ⟨g8,0,none⟩) E8.length c8) (rdL E8 m (j+1)) [g8]):=hideIt (by
    have h:=(OO.out.same (w':=wr.drewN n4) (fun _ _=>rfl)).set_ (i:=j) (by rw [rdL_len];exact hlt) (rdv dv 1000 m)
    rw [H2.out] at h
    exact h)
   have C4:Hid (Chg [g8] u2 ((wr.drewN n4).setCell ⟨g8,j,none⟩ (.int .i64 (rdv dv 1000 m)))):=hideIt ((CC.out.drewN n4).setCell (by simp) _)
   clear OO CC H2
   go_wp2
   go_roundw
   case rel=>exact ⟨j+1,by go_num,by omega,O4,C4⟩
   case measure=>simp [intOf];omega
  ·have hle:¬(j:Int)<(E8.length:Int):=by omega
   have hje:j=E8.length:=by omega
   subst hje
   have O9:Hid (OInts wr (.slice A8 E8.length c8) (E8.map fun a=>rdv a 1000 m) b8):=hideIt (by have h:=OO.out;rw [rdL_all] at h;exact h)
   have G9:=hideIt (G2.out.chg CC.out (fun q hq=>by have:=OW8.out q hq;have:=SG.out;omega))
   clear OO CC
   go_wp2
   refine bodyPost_ret (by simp [*,results,Tryz.results33,go_sem];try rfl) rfl ?_
   have e8:=HE8.out
   subst e8
   first|exact ⟨_,_,_,rfl,O9.out,G9.out⟩|exact ⟨_,_,rfl,⟨_,O9.out⟩,G9.out⟩
end Go.Proofs.YtlnpefiipdkafaaGreatDoor
