/-
  The reference's NodeLoads and NetLoad.
-/
import Derived.Test.YtlnpefiipdkafaaGreatDoorGT
import Derived.Test.YtlnpefiipdkafaaGreatDoorHZ
import Derived.Test.YtlnpefiipdkafaaGreatDoorIZ
namespace Go.Proofs.YtlnpefiipdkafaaGreatDoor
open Go.RowKit

set_option maxHeartbeats 8000000 in
set_option maxRecDepth 10000 in
theorem sNodeLoads_any {lv a b c wv:Value} {cs:List CellD} {d:DesignD} {ws:List WireD} (n:Int) (w:World) (hl:RCells w lv cs) (hd:RDesign w [a,b,c] d) (hw:RWires w wv ws) :
  Calls Tryz.prog 25 #[.agg #[lv,a,b,c,wv],.int .i64 n] w fun e w'=>∃(A:Option Addr) (c:Nat) (bs:List Nat),e=.returned (.tuple #[.slice A (nodeLdV cs d ws n).length c,.int .i64 (codeV cs d ws n)])∧OInts w' (.slice A (nodeLdV cs d ws n).length c) (nodeLdV cs d ws n) bs∧Own w.heap.size w'.heap.size bs∧Grows w w':=by
 have cl:=RList.len hl
 have wl:=RList.len hw
 obtain ⟨C,nc,rfl⟩:∃(D:Option Addr) (q:Nat),lv=.slice D cs.length q:=by obtain ⟨D,q,e,-⟩:=RList.form hl;exact ⟨D,q,e⟩
 obtain ⟨W,nw,rfl⟩:∃(D:Option Addr) (q:Nat),wv=.slice D ws.length q:=by obtain ⟨D,q,e,-⟩:=RList.form hw;exact ⟨D,q,e⟩
 have nl:=RList.len hd.parts.2.1
 obtain ⟨I,N,O,ni,nn,no,rfl,rfl,rfl⟩:=des_open hd
 have g:Grows w w:=Grows.refl w
 have G:Hid (Grows w (w.alloc (.cells #[.slice C cs.length nc,.slice I d.insts.length ni,.slice N d.nets.length nn,.slice O d.ports.length no,.slice W ws.length nw] 49))):=hideIt ((Grows.refl w).alloc _)
 clear g
 have SB:Hid (Blk (w.alloc (.cells #[.slice C cs.length nc,.slice I d.insts.length ni,.slice N d.nets.length nn,.slice O d.ports.length no,.slice W ws.length nw] 49)) (w.heap.size) 49 #[.slice C cs.length nc,.slice I d.insts.length ni,.slice N d.nets.length nn,.slice O d.ports.length no,.slice W ws.length nw]):=by
  have:=(Blk.new w 49 #[.slice C cs.length nc,.slice I d.insts.length ni,.slice N d.nets.length nn,.slice O d.ports.length no,.slice W ws.length nw]).grows (Grows.refl (w.alloc (.cells #[.slice C cs.length nc,.slice I d.insts.length ni,.slice N d.nets.length nn,.slice O d.ports.length no,.slice W ws.length nw] 49)))
  exact hideIt (by simpa using this)
 replace hl:=hideIt (hl.keep G.out.keeps)
 replace hd:=hideIt (hd.keep G.out.keeps)
 replace hw:=hideIt (hw.keep G.out.keeps)
 go_enter Tryz.func25,Tryz.ntmps25
 go_wp2_with fail
 refine (sCode_any n _ hl.out hd.out hw.out).mono ?_
 rintro e u1 ⟨rfl,g⟩
 replace G:=hideIt (G.out.trans g)
 replace hl:=hideIt (hl.out.keep g.keeps)
 replace hd:=hideIt (hd.out.keep g.keeps)
 replace hw:=hideIt (hw.out.keep g.keeps)
 replace SB:=hideIt (SB.out.grows g)
 clear g
 have kSB_0:u1.cell? ⟨w.heap.size,0,none⟩=some (.slice C cs.length nc):=SB.out.cell 0
 have kSB_1:u1.cell? ⟨w.heap.size,1,none⟩=some (.slice I d.insts.length ni):=SB.out.cell 1
 have kSB_2:u1.cell? ⟨w.heap.size,2,none⟩=some (.slice N d.nets.length nn):=SB.out.cell 2
 have kSB_3:u1.cell? ⟨w.heap.size,3,none⟩=some (.slice O d.ports.length no):=SB.out.cell 3
 have kSB_4:u1.cell? ⟨w.heap.size,4,none⟩=some (.slice W ws.length nw):=SB.out.cell 4
 have fSB:=SB.out.frozen
 have lSB:w.heap.size<u1.heap.size:=SB.out.lt
 by_cases hc:codeV cs d ws n=0
 case neg =>
  have E2:=hideIt (show nodeLdV cs d ws n=_ from if_neg hc)
  obtain ⟨cd,ecd⟩:∃z:Int,z=codeV cs d ws n:=⟨_,rfl⟩
  have tc:(cd != 0)=true:=by rw [bne_iff_ne,ecd];exact hc
  rw [←ecd]
  have EC:=hideIt ecd
  clear ecd hc
  go_wp2
  refine bodyPost_ret (by simp [*,results,Tryz.results25,go_sem];try rfl) rfl ?_
  exact ⟨none,0,[],ret_sc (by rw [E2.out];rfl) EC.out,.inl ⟨by rw [E2.out];rfl,E2.out,rfl⟩,Own.nil,G.out⟩
 have EC:=hideIt hc
 obtain ⟨bp,k,rfl,klt⟩:=codeV_0 hc
 have BP:=hideIt bp
 obtain ⟨x,hx⟩:∃x,ws[k]?=some x:=⟨_,List.getElem?_eq_getElem klt⟩
 have E2:=hideIt (nodeLdV_at hc hx)
 have HX:=hideIt hx
 rw [hc]
 clear hc bp hx
 have LB:=hideIt G.out.size
 go_wp2_with fail
 clear kSB_0 kSB_1 kSB_2 kSB_3 kSB_4 fSB lSB
 refine (sLoads_any k _ hl.out hd.out hw.out BP.out HX.out).mono ?_
 rintro e u2 ⟨A9,c9,bs9,rfl,o,ow,g⟩
 replace G:=hideIt (G.out.trans g)
 replace hl:=hideIt (hl.out.keep g.keeps)
 replace hd:=hideIt (hd.out.keep g.keeps)
 replace hw:=hideIt (hw.out.keep g.keeps)
 replace SB:=hideIt (SB.out.grows g)
 have HO:=hideIt o
 have HW:=hideIt ow
 clear o ow
 clear g
 have kSB_0:u2.cell? ⟨w.heap.size,0,none⟩=some (.slice C cs.length nc):=SB.out.cell 0
 have kSB_1:u2.cell? ⟨w.heap.size,1,none⟩=some (.slice I d.insts.length ni):=SB.out.cell 1
 have kSB_2:u2.cell? ⟨w.heap.size,2,none⟩=some (.slice N d.nets.length nn):=SB.out.cell 2
 have kSB_3:u2.cell? ⟨w.heap.size,3,none⟩=some (.slice O d.ports.length no):=SB.out.cell 3
 have kSB_4:u2.cell? ⟨w.heap.size,4,none⟩=some (.slice W ws.length nw):=SB.out.cell 4
 have fSB:=SB.out.frozen
 have lSB:w.heap.size<u2.heap.size:=SB.out.lt
 have LE:=hideIt (show (loadsL cs d x (k:Int)).length=(nodeLdV cs d ws (k:Int)).length from by rw [E2.out])
 go_wp2
 refine bodyPost_ret (by simp [*,results,Tryz.results25,go_sem];try rfl) rfl ?_
 exact ⟨A9,c9,bs9,ret_sc LE.out EC.out.symm,by rw [E2.out];exact HO.out,HW.out.mono LB.out (Nat.le_refl _),G.out⟩


end Go.Proofs.YtlnpefiipdkafaaGreatDoor
/-
  The program's NodeLoads and NetLoad.
-/
namespace Go.Proofs.YtlnpefiipdkafaaGreatDoor
open Go.RowKit

set_option maxHeartbeats 8000000 in
set_option maxRecDepth 10000 in
theorem iNodeLoads_any {lv a b c wv:Value} {cs:List CellD} {d:DesignD} {ws:List WireD} (n:Int) (w:World) (hl:RCells w lv cs) (hd:RDesign w [a,b,c] d) (hw:RWires w wv ws) (hsl:SmCells cs) (hsd:SmDesign d) :
  Calls Tryz.prog 24 #[.agg #[lv,a,b,c,wv],.int .i64 n] w fun e w'=>∃(A:Option Addr) (c:Nat) (bs:List Nat),e=.returned (.tuple #[.slice A (nodeLdV cs d ws n).length c,.int .i64 (codeV cs d ws n)])∧OInts w' (.slice A (nodeLdV cs d ws n).length c) (nodeLdV cs d ws n) bs∧Own w.heap.size w'.heap.size bs∧Grows w w':=by
 have cl:=RList.len hl
 have wl:=RList.len hw
 obtain ⟨C,nc,rfl⟩:∃(D:Option Addr) (q:Nat),lv=.slice D cs.length q:=by obtain ⟨D,q,e,-⟩:=RList.form hl;exact ⟨D,q,e⟩
 obtain ⟨W,nw,rfl⟩:∃(D:Option Addr) (q:Nat),wv=.slice D ws.length q:=by obtain ⟨D,q,e,-⟩:=RList.form hw;exact ⟨D,q,e⟩
 have nl:=RList.len hd.parts.2.1
 obtain ⟨I,N,O,ni,nn,no,rfl,rfl,rfl⟩:=des_open hd
 have SA:=hideIt hsl
 have SM:=hideIt hsd
 clear hsl hsd
 have g:Grows w w:=Grows.refl w
 have G:Hid (Grows w (w.alloc (.cells #[.slice C cs.length nc,.slice I d.insts.length ni,.slice N d.nets.length nn,.slice O d.ports.length no,.slice W ws.length nw] 49))):=hideIt ((Grows.refl w).alloc _)
 clear g
 have SB:Hid (Blk (w.alloc (.cells #[.slice C cs.length nc,.slice I d.insts.length ni,.slice N d.nets.length nn,.slice O d.ports.length no,.slice W ws.length nw] 49)) (w.heap.size) 49 #[.slice C cs.length nc,.slice I d.insts.length ni,.slice N d.nets.length nn,.slice O d.ports.length no,.slice W ws.length nw]):=by
  have:=(Blk.new w 49 #[.slice C cs.length nc,.slice I d.insts.length ni,.slice N d.nets.length nn,.slice O d.ports.length no,.slice W ws.length nw]).grows (Grows.refl (w.alloc (.cells #[.slice C cs.length nc,.slice I d.insts.length ni,.slice N d.nets.length nn,.slice O d.ports.length no,.slice W ws.length nw] 49)))
  exact hideIt (by simpa using this)
 replace hl:=hideIt (hl.keep G.out.keeps)
 replace hd:=hideIt (hd.keep G.out.keeps)
 replace hw:=hideIt (hw.keep G.out.keeps)
 go_enter Tryz.func24,Tryz.ntmps24
 go_wp2_with fail
 refine (iCode_any n _ hl.out hd.out hw.out SA.out SM.out).mono ?_
 rintro e u1 ⟨rfl,g⟩
 replace G:=hideIt (G.out.trans g)
 replace hl:=hideIt (hl.out.keep g.keeps)
 replace hd:=hideIt (hd.out.keep g.keeps)
 replace hw:=hideIt (hw.out.keep g.keeps)
 replace SB:=hideIt (SB.out.grows g)
 clear g
 have kSB_0:u1.cell? ⟨w.heap.size,0,none⟩=some (.slice C cs.length nc):=SB.out.cell 0
 have kSB_1:u1.cell? ⟨w.heap.size,1,none⟩=some (.slice I d.insts.length ni):=SB.out.cell 1
 have kSB_2:u1.cell? ⟨w.heap.size,2,none⟩=some (.slice N d.nets.length nn):=SB.out.cell 2
 have kSB_3:u1.cell? ⟨w.heap.size,3,none⟩=some (.slice O d.ports.length no):=SB.out.cell 3
 have kSB_4:u1.cell? ⟨w.heap.size,4,none⟩=some (.slice W ws.length nw):=SB.out.cell 4
 have fSB:=SB.out.frozen
 have lSB:w.heap.size<u1.heap.size:=SB.out.lt
 by_cases hc:codeV cs d ws n=0
 case neg =>
  have E2:=hideIt (show nodeLdV cs d ws n=_ from if_neg hc)
  obtain ⟨cd,ecd⟩:∃z:Int,z=codeV cs d ws n:=⟨_,rfl⟩
  have tc:(cd != 0)=true:=by rw [bne_iff_ne,ecd];exact hc
  rw [←ecd]
  have EC:=hideIt ecd
  clear ecd hc
  go_wp2
  refine bodyPost_ret (by simp [*,results,Tryz.results24,go_sem];try rfl) rfl ?_
  exact ⟨none,0,[],ret_sc (by rw [E2.out];rfl) EC.out,.inl ⟨by rw [E2.out];rfl,E2.out,rfl⟩,Own.nil,G.out⟩
 have EC:=hideIt hc
 obtain ⟨bp,k,rfl,klt⟩:=codeV_0 hc
 have BP:=hideIt bp
 obtain ⟨x,hx⟩:∃x,ws[k]?=some x:=⟨_,List.getElem?_eq_getElem klt⟩
 have E2:=hideIt (nodeLdV_at hc hx)
 have HX:=hideIt hx
 rw [hc]
 clear hc bp hx
 have LB:=hideIt G.out.size
 go_wp2_with fail
 clear kSB_0 kSB_1 kSB_2 kSB_3 kSB_4 fSB lSB
 refine (iLoads_any k _ hl.out hd.out hw.out BP.out HX.out).mono ?_
 rintro e u2 ⟨A9,c9,bs9,rfl,o,ow,g⟩
 replace G:=hideIt (G.out.trans g)
 replace hl:=hideIt (hl.out.keep g.keeps)
 replace hd:=hideIt (hd.out.keep g.keeps)
 replace hw:=hideIt (hw.out.keep g.keeps)
 replace SB:=hideIt (SB.out.grows g)
 have HO:=hideIt o
 have HW:=hideIt ow
 clear o ow
 clear g
 have kSB_0:u2.cell? ⟨w.heap.size,0,none⟩=some (.slice C cs.length nc):=SB.out.cell 0
 have kSB_1:u2.cell? ⟨w.heap.size,1,none⟩=some (.slice I d.insts.length ni):=SB.out.cell 1
 have kSB_2:u2.cell? ⟨w.heap.size,2,none⟩=some (.slice N d.nets.length nn):=SB.out.cell 2
 have kSB_3:u2.cell? ⟨w.heap.size,3,none⟩=some (.slice O d.ports.length no):=SB.out.cell 3
 have kSB_4:u2.cell? ⟨w.heap.size,4,none⟩=some (.slice W ws.length nw):=SB.out.cell 4
 have fSB:=SB.out.frozen
 have lSB:w.heap.size<u2.heap.size:=SB.out.lt
 have LE:=hideIt (show (loadsL cs d x (k:Int)).length=(nodeLdV cs d ws (k:Int)).length from by rw [E2.out])
 go_wp2
 refine bodyPost_ret (by simp [*,results,Tryz.results24,go_sem];try rfl) rfl ?_
 exact ⟨A9,c9,bs9,ret_sc LE.out EC.out.symm,by rw [E2.out];exact HO.out,HW.out.mono LB.out (Nat.le_refl _),G.out⟩

set_option maxHeartbeats 8000000 in
set_option maxRecDepth 10000 in
theorem iNetLoad_any {lv a b c wv:Value} {cs:List CellD} {d:DesignD} {ws:List WireD} (n:Int) (w:World) (hl:RCells w lv cs) (hd:RDesign w [a,b,c] d) (hw:RWires w wv ws) (hsl:SmCells cs) (hsd:SmDesign d) :
  Calls Tryz.prog 27 #[.agg #[lv,a,b,c,wv],.int .i64 n] w fun e w'=>e=.returned (.tuple #[.int .i64 (netLdV cs d ws n),.int .i64 (codeV cs d ws n)])∧Grows w w':=by
 have cl:=RList.len hl
 have wl:=RList.len hw
 obtain ⟨C,nc,rfl⟩:∃(D:Option Addr) (q:Nat),lv=.slice D cs.length q:=by obtain ⟨D,q,e,-⟩:=RList.form hl;exact ⟨D,q,e⟩
 obtain ⟨W,nw,rfl⟩:∃(D:Option Addr) (q:Nat),wv=.slice D ws.length q:=by obtain ⟨D,q,e,-⟩:=RList.form hw;exact ⟨D,q,e⟩
 have nl:=RList.len hd.parts.2.1
 obtain ⟨I,N,O,ni,nn,no,rfl,rfl,rfl⟩:=des_open hd
 have SA:=hideIt hsl
 have SM:=hideIt hsd
 clear hsl hsd
 have g:Grows w w:=Grows.refl w
 have G:Hid (Grows w (w.alloc (.cells #[.slice C cs.length nc,.slice I d.insts.length ni,.slice N d.nets.length nn,.slice O d.ports.length no,.slice W ws.length nw] 49))):=hideIt ((Grows.refl w).alloc _)
 clear g
 have SB:Hid (Blk (w.alloc (.cells #[.slice C cs.length nc,.slice I d.insts.length ni,.slice N d.nets.length nn,.slice O d.ports.length no,.slice W ws.length nw] 49)) (w.heap.size) 49 #[.slice C cs.length nc,.slice I d.insts.length ni,.slice N d.nets.length nn,.slice O d.ports.length no,.slice W ws.length nw]):=by
  have:=(Blk.new w 49 #[.slice C cs.length nc,.slice I d.insts.length ni,.slice N d.nets.length nn,.slice O d.ports.length no,.slice W ws.length nw]).grows (Grows.refl (w.alloc (.cells #[.slice C cs.length nc,.slice I d.insts.length ni,.slice N d.nets.length nn,.slice O d.ports.length no,.slice W ws.length nw] 49)))
  exact hideIt (by simpa using this)
 replace hl:=hideIt (hl.keep G.out.keeps)
 replace hd:=hideIt (hd.keep G.out.keeps)
 replace hw:=hideIt (hw.keep G.out.keeps)
 go_enter Tryz.func27,Tryz.ntmps27
 go_wp2_with fail
 refine (iNodeLoads_any n _ hl.out hd.out hw.out SA.out SM.out).mono ?_
 rintro e u1 ⟨A9,c9,bs9,rfl,o,ow,g⟩
 replace G:=hideIt (G.out.trans g)
 replace hl:=hideIt (hl.out.keep g.keeps)
 replace hd:=hideIt (hd.out.keep g.keeps)
 replace hw:=hideIt (hw.out.keep g.keeps)
 replace SB:=hideIt (SB.out.grows g)
 clear g
 have kSB_0:u1.cell? ⟨w.heap.size,0,none⟩=some (.slice C cs.length nc):=SB.out.cell 0
 have kSB_1:u1.cell? ⟨w.heap.size,1,none⟩=some (.slice I d.insts.length ni):=SB.out.cell 1
 have kSB_2:u1.cell? ⟨w.heap.size,2,none⟩=some (.slice N d.nets.length nn):=SB.out.cell 2
 have kSB_3:u1.cell? ⟨w.heap.size,3,none⟩=some (.slice O d.ports.length no):=SB.out.cell 3
 have kSB_4:u1.cell? ⟨w.heap.size,4,none⟩=some (.slice W ws.length nw):=SB.out.cell 4
 have fSB:=SB.out.frozen
 have lSB:w.heap.size<u1.heap.size:=SB.out.lt
 by_cases hc:codeV cs d ws n=0
 case neg =>
  have E2:=hideIt (show netLdV cs d ws n=_ from if_neg hc)
  obtain ⟨cd,ecd⟩:∃z:Int,z=codeV cs d ws n:=⟨_,rfl⟩
  have tc:(cd != 0)=true:=by rw [bne_iff_ne,ecd];exact hc
  rw [←ecd]
  have EC:=hideIt ecd
  clear ecd hc o ow
  go_wp2
  refine bodyPost_ret (by simp [*,results,Tryz.results27,go_sem];try rfl) rfl ?_
  exact ⟨ret_two E2.out.symm EC.out,G.out⟩
 have EC:=hideIt hc
 obtain ⟨bp,k,rfl,klt⟩:=codeV_0 hc
 have BP:=hideIt bp
 obtain ⟨x,hx⟩:∃x,ws[k]?=some x:=⟨_,List.getElem?_eq_getElem klt⟩
 have E2:=hideIt (netLdV_at hc hx)
 rw [nodeLdV_at hc hx] at o ⊢
 have HX:=hideIt hx
 rw [hc]
 clear hc bp hx
 have x0:(loadsL cs d x (k:Int))[0]?=some ((loadsL cs d x (k:Int)).getD 0 0):=getD_at (by rw [loadsL_len];have:=(wireT_of (BP.out.wire k x HX.out)).cap;have:=(wireT_of (BP.out.wire k x HX.out)).n1;omega)
 obtain ⟨v0,ev0⟩:∃v0,v0=(loadsL cs d x (k:Int)).getD 0 0:=⟨_,rfl⟩
 rw [←ev0] at x0
 replace E2:=hideIt (E2.out.trans ev0.symm)
 obtain ⟨bk,ok,rfl,qk⟩:=ints_at o.reads x0
 rw [Nat.add_zero] at qk
 have lpos:(0:Int)<((loadsL cs d x (k:Int)).length:Int):=by have:=(List.getElem?_eq_some_iff.1 x0).1;omega
 have lpos2:0<(loadsL cs d x (k:Int)).length:=by omega
 clear o ow x0 ev0
 go_wp2
 refine bodyPost_ret (by simp [*,results,Tryz.results27,go_sem];try rfl) rfl ?_
 exact ⟨ret_two E2.out.symm EC.out.symm,G.out⟩

end Go.Proofs.YtlnpefiipdkafaaGreatDoor
